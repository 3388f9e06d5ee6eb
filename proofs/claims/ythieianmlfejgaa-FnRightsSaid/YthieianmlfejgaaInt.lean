/- Contracts of the functions of single numbers, rights and slots: each returns what its plain function says. No condition. -/
import Derived.Test.YthieianmlfejgaaPure
import Derived.Test.YthieianmlfejgaaChecked
import Derived.WalkKit
import Derived.ProofKit
import Derived.Handy
import Derived.WalkLawsBesides
import Derived.WalkSpells
import Derived.BigQuiet
import Derived.Deep.QuietTactic
import Derived.Test.YthieianmlfejgaaQuiet
namespace Go.Proofs.Ythieianmlfejgaa
open Go.RowKit
set_option linter.unusedVariables false
set_option maxHeartbeats 400000

theorem l01In_c (n a b : Int) (w : World) : Calls Try.prog 43 #[.int .i64 n, .int .i64 a, .int .i64 b] w fun e w' => e = .returned (.bool (inB n a b)) ∧ w = w' := by
  by_cases h1 : a ≤ n <;> by_cases h2 : n ≤ b
  all_goals
    go_enter Try.func43, Try.ntmps43
    go_wp2
    go_ret
    exact ⟨by simp [inB, h1, h2], rfl⟩
theorem within_c (n a b : Int) (w : World) : Calls Try.prog 36 #[.int .i64 n, .int .i64 a, .int .i64 b] w fun e w' => e = .returned (.bool (inB n a b)) ∧ w = w' := by
  by_cases h1 : a ≤ n <;> by_cases h2 : n ≤ b
  all_goals
    go_enter Try.func36, Try.ntmps36
    go_wp2
    go_ret
    exact ⟨by simp [inB, h1, h2], rfl⟩
theorem sRightsOk_c (r : Int) (w : World) : Calls Try.prog 32 #[.int .i64 r] w fun e w' => e = .returned (.bool (rOk r)) ∧ w = w' := by
  go_enter Try.func32, Try.ntmps32
  go_wp2_with (go_at_call 43; refine (l01In_c _ _ _ _).mono ?_; rintro e w' ⟨rfl, rfl⟩)
  go_ret
  exact ⟨rfl, rfl⟩
theorem iRightsOk_c (r : Int) (w : World) : Calls Try.prog 31 #[.int .i64 r] w fun e w' => e = .returned (.bool (rOk r)) ∧ w = w' := by
  go_enter Try.func31, Try.ntmps31
  go_wp2_with (go_at_call 36; refine (within_c _ _ _ _).mono ?_; rintro e w' ⟨rfl, rfl⟩)
  go_ret
  exact ⟨rfl, rfl⟩
theorem sBothRights_c (a b : Int) (w : World) : Calls Try.prog 25 #[.int .i64 a, .int .i64 b] w fun e w' => e = .returned (.int .i64 (bothR a b)) ∧ w = w' := by
  cases h1 : rOk a <;> cases h2 : rOk b
  all_goals
    go_enter Try.func25, Try.ntmps25
    go_wp2_with (go_at_call 32; refine (sRightsOk_c _ _).mono ?_; rintro e w' ⟨rfl, rfl⟩)
    go_ret
    exact ⟨by simp [bothR, h1, h2], rfl⟩
theorem iBothRights_c (a b : Int) (w : World) : Calls Try.prog 20 #[.int .i64 a, .int .i64 b] w fun e w' => e = .returned (.int .i64 (bothR a b)) ∧ w = w' := by
  cases h1 : rOk a <;> cases h2 : rOk b
  all_goals
    go_enter Try.func20, Try.ntmps20
    go_wp2_with (go_at_call 31; refine (iRightsOk_c _ _).mono ?_; rintro e w' ⟨rfl, rfl⟩)
    go_ret
    exact ⟨by simp [bothR, h1, h2], rfl⟩
theorem sEnough_c (a b : Int) (w : World) : Calls Try.prog 26 #[.int .i64 a, .int .i64 b] w fun e w' => e = .returned (.bool (enough a b)) ∧ w = w' := by
  cases h1 : rOk a <;> cases h2 : rOk b
  all_goals
    go_enter Try.func26, Try.ntmps26
    go_wp2_with (go_at_call 32; refine (sRightsOk_c _ _).mono ?_; rintro e w' ⟨rfl, rfl⟩)
    go_ret
    exact ⟨by simp [enough, h1, h2], rfl⟩
theorem iEnough_c (a b : Int) (w : World) : Calls Try.prog 19 #[.int .i64 a, .int .i64 b] w fun e w' => e = .returned (.bool (enough a b)) ∧ w = w' := by
  cases h1 : rOk a <;> cases h2 : rOk b
  all_goals
    go_enter Try.func19, Try.ntmps19
    go_wp2_with (go_at_call 31; refine (iRightsOk_c _ _).mono ?_; rintro e w' ⟨rfl, rfl⟩)
    go_ret
    exact ⟨by simp [enough, h1, h2], rfl⟩
theorem l01In_v {n a b : Int} {v : Bool} (h : inB n a b = v) (w : World) : Calls Try.prog 43 #[.int .i64 n, .int .i64 a, .int .i64 b] w fun e w' => e = .returned (.bool v) ∧ w = w' := by
  subst h; exact l01In_c n a b w
theorem within_v {n a b : Int} {v : Bool} (h : inB n a b = v) (w : World) : Calls Try.prog 36 #[.int .i64 n, .int .i64 a, .int .i64 b] w fun e w' => e = .returned (.bool v) ∧ w = w' := by
  subst h; exact within_c n a b w
theorem sRightsOk_v {r : Int} {v : Bool} (h : rOk r = v) (w : World) : Calls Try.prog 32 #[.int .i64 r] w fun e w' => e = .returned (.bool v) ∧ w = w' := by
  subst h; exact sRightsOk_c r w
theorem iRightsOk_v {r : Int} {v : Bool} (h : rOk r = v) (w : World) : Calls Try.prog 31 #[.int .i64 r] w fun e w' => e = .returned (.bool v) ∧ w = w' := by
  subst h; exact iRightsOk_c r w
theorem sEnough_v {a b : Int} {v : Bool} (h : enough a b = v) (w : World) : Calls Try.prog 26 #[.int .i64 a, .int .i64 b] w fun e w' => e = .returned (.bool v) ∧ w = w' := by
  subst h; exact sEnough_c a b w
theorem iEnough_v {a b : Int} {v : Bool} (h : enough a b = v) (w : World) : Calls Try.prog 19 #[.int .i64 a, .int .i64 b] w fun e w' => e = .returned (.bool v) ∧ w = w' := by
  subst h; exact iEnough_c a b w
end Go.Proofs.Ythieianmlfejgaa
