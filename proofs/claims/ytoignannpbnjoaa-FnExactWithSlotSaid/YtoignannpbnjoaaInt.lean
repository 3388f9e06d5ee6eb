/- Contracts of the functions of single numbers, rights and slots: each returns what its plain function says. No condition. -/
import Derived.Test.YtoignannpbnjoaaPure
import Derived.Test.YtoignannpbnjoaaChecked
import Derived.WalkKit
import Derived.ProofKit
import Derived.Handy
import Derived.WalkLawsBesides
import Derived.WalkSpells
import Derived.BigQuiet
import Derived.Deep.QuietTactic
import Derived.Test.YtoignannpbnjoaaQuiet
namespace Go.Proofs.Ytoignannpbnjoaa
open Go.RowKit
set_option linter.unusedVariables false
set_option maxHeartbeats 400000

theorem l01In_c (n a b : Int) (w : World) : Calls Try.prog 49 #[.int .i64 n, .int .i64 a, .int .i64 b] w fun e w' => e = .returned (.bool (inB n a b)) ∧ w = w' := by
  by_cases h1 : a ≤ n <;> by_cases h2 : n ≤ b
  all_goals
    go_enter Try.func49, Try.ntmps49
    go_wp2
    go_ret
    exact ⟨by simp [inB, h1, h2], rfl⟩
theorem within_c (n a b : Int) (w : World) : Calls Try.prog 63 #[.int .i64 n, .int .i64 a, .int .i64 b] w fun e w' => e = .returned (.bool (inB n a b)) ∧ w = w' := by
  by_cases h1 : a ≤ n <;> by_cases h2 : n ≤ b
  all_goals
    go_enter Try.func63, Try.ntmps63
    go_wp2
    go_ret
    exact ⟨by simp [inB, h1, h2], rfl⟩
theorem has_c (k n : Int) (w : World) : Calls Try.prog 51 #[.int .i64 k, .int .i64 n] w fun e w' => e = .returned (.bool (hasB k n)) ∧ w = w' := by
  by_cases h1 : 0 ≤ k <;> by_cases h2 : k < n
  all_goals
    go_enter Try.func51, Try.ntmps51
    go_wp2
    go_ret
    exact ⟨by simp [hasB, h1, h2], rfl⟩
theorem sRightsOk_c (r : Int) (w : World) : Calls Try.prog 64 #[.int .i64 r] w fun e w' => e = .returned (.bool (rOk r)) ∧ w = w' := by
  go_enter Try.func64, Try.ntmps64
  go_wp2_with (go_at_call 49; refine (l01In_c _ _ _ _).mono ?_; rintro e w' ⟨rfl, rfl⟩)
  go_ret
  exact ⟨rfl, rfl⟩
theorem iRightsOk_c (r : Int) (w : World) : Calls Try.prog 65 #[.int .i64 r] w fun e w' => e = .returned (.bool (rOk r)) ∧ w = w' := by
  go_enter Try.func65, Try.ntmps65
  go_wp2_with (go_at_call 63; refine (within_c _ _ _ _).mono ?_; rintro e w' ⟨rfl, rfl⟩)
  go_ret
  exact ⟨rfl, rfl⟩
theorem sBothRights_c (a b : Int) (w : World) : Calls Try.prog 59 #[.int .i64 a, .int .i64 b] w fun e w' => e = .returned (.int .i64 (bothR a b)) ∧ w = w' := by
  cases h1 : rOk a <;> cases h2 : rOk b
  all_goals
    go_enter Try.func59, Try.ntmps59
    go_wp2_with (go_at_call 64; refine (sRightsOk_c _ _).mono ?_; rintro e w' ⟨rfl, rfl⟩)
    go_ret
    exact ⟨by simp [bothR, h1, h2], rfl⟩
theorem iBothRights_c (a b : Int) (w : World) : Calls Try.prog 60 #[.int .i64 a, .int .i64 b] w fun e w' => e = .returned (.int .i64 (bothR a b)) ∧ w = w' := by
  cases h1 : rOk a <;> cases h2 : rOk b
  all_goals
    go_enter Try.func60, Try.ntmps60
    go_wp2_with (go_at_call 65; refine (iRightsOk_c _ _).mono ?_; rintro e w' ⟨rfl, rfl⟩)
    go_ret
    exact ⟨by simp [bothR, h1, h2], rfl⟩
theorem sEnough_c (a b : Int) (w : World) : Calls Try.prog 61 #[.int .i64 a, .int .i64 b] w fun e w' => e = .returned (.bool (enough a b)) ∧ w = w' := by
  cases h1 : rOk a <;> cases h2 : rOk b
  all_goals
    go_enter Try.func61, Try.ntmps61
    go_wp2_with (go_at_call 64; refine (sRightsOk_c _ _).mono ?_; rintro e w' ⟨rfl, rfl⟩)
    go_ret
    exact ⟨by simp [enough, h1, h2], rfl⟩
theorem iEnough_c (a b : Int) (w : World) : Calls Try.prog 62 #[.int .i64 a, .int .i64 b] w fun e w' => e = .returned (.bool (enough a b)) ∧ w = w' := by
  cases h1 : rOk a <;> cases h2 : rOk b
  all_goals
    go_enter Try.func62, Try.ntmps62
    go_wp2_with (go_at_call 65; refine (iRightsOk_c _ _).mono ?_; rintro e w' ⟨rfl, rfl⟩)
    go_ret
    exact ⟨by simp [enough, h1, h2], rfl⟩
theorem l01In_v {n a b : Int} {v : Bool} (h : inB n a b = v) (w : World) : Calls Try.prog 49 #[.int .i64 n, .int .i64 a, .int .i64 b] w fun e w' => e = .returned (.bool v) ∧ w = w' := by
  subst h; exact l01In_c n a b w
theorem within_v {n a b : Int} {v : Bool} (h : inB n a b = v) (w : World) : Calls Try.prog 63 #[.int .i64 n, .int .i64 a, .int .i64 b] w fun e w' => e = .returned (.bool v) ∧ w = w' := by
  subst h; exact within_c n a b w
theorem has_v {n a : Int} {v : Bool} (h : hasB n a = v) (w : World) : Calls Try.prog 51 #[.int .i64 n, .int .i64 a] w fun e w' => e = .returned (.bool v) ∧ w = w' := by
  subst h; exact has_c n a w
theorem sRightsOk_v {r : Int} {v : Bool} (h : rOk r = v) (w : World) : Calls Try.prog 64 #[.int .i64 r] w fun e w' => e = .returned (.bool v) ∧ w = w' := by
  subst h; exact sRightsOk_c r w
theorem iRightsOk_v {r : Int} {v : Bool} (h : rOk r = v) (w : World) : Calls Try.prog 65 #[.int .i64 r] w fun e w' => e = .returned (.bool v) ∧ w = w' := by
  subst h; exact iRightsOk_c r w
theorem sEnough_v {a b : Int} {v : Bool} (h : enough a b = v) (w : World) : Calls Try.prog 61 #[.int .i64 a, .int .i64 b] w fun e w' => e = .returned (.bool v) ∧ w = w' := by
  subst h; exact sEnough_c a b w
theorem iEnough_v {a b : Int} {v : Bool} (h : enough a b = v) (w : World) : Calls Try.prog 62 #[.int .i64 a, .int .i64 b] w fun e w' => e = .returned (.bool v) ∧ w = w' := by
  subst h; exact iEnough_c a b w
end Go.Proofs.Ytoignannpbnjoaa
