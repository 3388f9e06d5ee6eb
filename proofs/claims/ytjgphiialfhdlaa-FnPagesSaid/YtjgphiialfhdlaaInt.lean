/- Contracts of the functions of single numbers, rights and slots: each returns what its plain function says. No condition. -/
import Derived.Test.YtjgphiialfhdlaaPure
import Derived.Test.YtjgphiialfhdlaaChecked
import Derived.WalkKit
import Derived.ProofKit
import Derived.Handy
import Derived.WalkLawsBesides
import Derived.WalkSpells
import Derived.BigQuiet
import Derived.Deep.QuietTactic
import Derived.Test.YtjgphiialfhdlaaQuiet
namespace Go.Proofs.Ytjgphiialfhdlaa
open Go.RowKit
set_option linter.unusedVariables false
set_option maxHeartbeats 400000

theorem l01In_c (n a b : Int) (w : World) : Calls Try.prog 54 #[.int .i64 n, .int .i64 a, .int .i64 b] w fun e w' => e = .returned (.bool (inB n a b)) ∧ w = w' := by
  by_cases h1 : a ≤ n <;> by_cases h2 : n ≤ b
  all_goals
    go_enter Try.func54, Try.ntmps54
    go_wp2
    go_ret
    exact ⟨by simp [inB, h1, h2], rfl⟩
theorem within_c (n a b : Int) (w : World) : Calls Try.prog 55 #[.int .i64 n, .int .i64 a, .int .i64 b] w fun e w' => e = .returned (.bool (inB n a b)) ∧ w = w' := by
  by_cases h1 : a ≤ n <;> by_cases h2 : n ≤ b
  all_goals
    go_enter Try.func55, Try.ntmps55
    go_wp2
    go_ret
    exact ⟨by simp [inB, h1, h2], rfl⟩
theorem has_c (k n : Int) (w : World) : Calls Try.prog 60 #[.int .i64 k, .int .i64 n] w fun e w' => e = .returned (.bool (hasB k n)) ∧ w = w' := by
  by_cases h1 : 0 ≤ k <;> by_cases h2 : k < n
  all_goals
    go_enter Try.func60, Try.ntmps60
    go_wp2
    go_ret
    exact ⟨by simp [hasB, h1, h2], rfl⟩
theorem sBrought_c (n a b : Int) (w : World) : Calls Try.prog 57 #[.int .i64 n, .int .i64 a, .int .i64 b] w fun e w' => e = .returned (.int .i64 (brought n a b)) ∧ w = w' := by
  by_cases h1 : n < a <;> by_cases h2 : b < a <;> by_cases h3 : n ≤ b
  all_goals (first | (exfalso; omega) | skip)
  all_goals
    go_enter Try.func57, Try.ntmps57
    go_wp2
    go_ret
    exact ⟨by unfold brought; (repeat' split) <;> first | rfl | (exfalso; omega) | (congr 2; omega), rfl⟩
theorem iBrought_c (n a b : Int) (w : World) : Calls Try.prog 58 #[.int .i64 n, .int .i64 a, .int .i64 b] w fun e w' => e = .returned (.int .i64 (brought n a b)) ∧ w = w' := by
  by_cases h1 : n < a <;> by_cases h2 : b < a <;> by_cases h3 : n ≤ b
  all_goals (first | (exfalso; omega) | skip)
  all_goals
    go_enter Try.func58, Try.ntmps58
    go_wp2
    go_ret
    exact ⟨by unfold brought; (repeat' split) <;> first | rfl | (exfalso; omega) | (congr 2; omega), rfl⟩
theorem l01In_v {n a b : Int} {v : Bool} (h : inB n a b = v) (w : World) : Calls Try.prog 54 #[.int .i64 n, .int .i64 a, .int .i64 b] w fun e w' => e = .returned (.bool v) ∧ w = w' := by
  subst h; exact l01In_c n a b w
theorem within_v {n a b : Int} {v : Bool} (h : inB n a b = v) (w : World) : Calls Try.prog 55 #[.int .i64 n, .int .i64 a, .int .i64 b] w fun e w' => e = .returned (.bool v) ∧ w = w' := by
  subst h; exact within_c n a b w
theorem has_v {n a : Int} {v : Bool} (h : hasB n a = v) (w : World) : Calls Try.prog 60 #[.int .i64 n, .int .i64 a] w fun e w' => e = .returned (.bool v) ∧ w = w' := by
  subst h; exact has_c n a w
end Go.Proofs.Ytjgphiialfhdlaa
