/- Contracts of the functions of single numbers, rights and slots: each returns what its plain function says. No condition. -/
import Derived.Test.YtlfnhfipnjgifaaPure
import Derived.Test.YtlfnhfipnjgifaaChecked
import Derived.WalkKit
import Derived.ProofKit
import Derived.Handy
import Derived.WalkLawsBesides
import Derived.WalkSpells
import Derived.BigQuiet
import Derived.Deep.QuietTactic
import Derived.Test.YtlfnhfipnjgifaaQuiet
namespace Go.Proofs.Ytlfnhfipnjgifaa
open Go.RowKit
set_option linter.unusedVariables false
set_option maxHeartbeats 400000

theorem l01In_c (n a b : Int) (w : World) : Calls Try.prog 118 #[.int .i64 n, .int .i64 a, .int .i64 b] w fun e w' => e = .returned (.bool (inB n a b)) ∧ w = w' := by
  by_cases h1 : a ≤ n <;> by_cases h2 : n ≤ b
  all_goals
    go_enter Try.func118, Try.ntmps118
    go_wp2
    go_ret
    exact ⟨by simp [inB, h1, h2], rfl⟩
theorem within_c (n a b : Int) (w : World) : Calls Try.prog 117 #[.int .i64 n, .int .i64 a, .int .i64 b] w fun e w' => e = .returned (.bool (inB n a b)) ∧ w = w' := by
  by_cases h1 : a ≤ n <;> by_cases h2 : n ≤ b
  all_goals
    go_enter Try.func117, Try.ntmps117
    go_wp2
    go_ret
    exact ⟨by simp [inB, h1, h2], rfl⟩
theorem has_c (k n : Int) (w : World) : Calls Try.prog 104 #[.int .i64 k, .int .i64 n] w fun e w' => e = .returned (.bool (hasB k n)) ∧ w = w' := by
  by_cases h1 : 0 ≤ k <;> by_cases h2 : k < n
  all_goals
    go_enter Try.func104, Try.ntmps104
    go_wp2
    go_ret
    exact ⟨by simp [hasB, h1, h2], rfl⟩
theorem sRightsOk_c (r : Int) (w : World) : Calls Try.prog 119 #[.int .i64 r] w fun e w' => e = .returned (.bool (rOk r)) ∧ w = w' := by
  go_enter Try.func119, Try.ntmps119
  go_wp2_with (go_at_call 118; refine (l01In_c _ _ _ _).mono ?_; rintro e w' ⟨rfl, rfl⟩)
  go_ret
  exact ⟨rfl, rfl⟩
theorem iRightsOk_c (r : Int) (w : World) : Calls Try.prog 127 #[.int .i64 r] w fun e w' => e = .returned (.bool (rOk r)) ∧ w = w' := by
  go_enter Try.func127, Try.ntmps127
  go_wp2_with (go_at_call 117; refine (within_c _ _ _ _).mono ?_; rintro e w' ⟨rfl, rfl⟩)
  go_ret
  exact ⟨rfl, rfl⟩
theorem sBothRights_c (a b : Int) (w : World) : Calls Try.prog 123 #[.int .i64 a, .int .i64 b] w fun e w' => e = .returned (.int .i64 (bothR a b)) ∧ w = w' := by
  cases h1 : rOk a <;> cases h2 : rOk b
  all_goals
    go_enter Try.func123, Try.ntmps123
    go_wp2_with (go_at_call 119; refine (sRightsOk_c _ _).mono ?_; rintro e w' ⟨rfl, rfl⟩)
    go_ret
    exact ⟨by simp [bothR, h1, h2], rfl⟩
theorem iBothRights_c (a b : Int) (w : World) : Calls Try.prog 113 #[.int .i64 a, .int .i64 b] w fun e w' => e = .returned (.int .i64 (bothR a b)) ∧ w = w' := by
  cases h1 : rOk a <;> cases h2 : rOk b
  all_goals
    go_enter Try.func113, Try.ntmps113
    go_wp2_with (go_at_call 127; refine (iRightsOk_c _ _).mono ?_; rintro e w' ⟨rfl, rfl⟩)
    go_ret
    exact ⟨by simp [bothR, h1, h2], rfl⟩
theorem sEnough_c (a b : Int) (w : World) : Calls Try.prog 67 #[.int .i64 a, .int .i64 b] w fun e w' => e = .returned (.bool (enough a b)) ∧ w = w' := by
  cases h1 : rOk a <;> cases h2 : rOk b
  all_goals
    go_enter Try.func67, Try.ntmps67
    go_wp2_with (go_at_call 119; refine (sRightsOk_c _ _).mono ?_; rintro e w' ⟨rfl, rfl⟩)
    go_ret
    exact ⟨by simp [enough, h1, h2], rfl⟩
theorem iEnough_c (a b : Int) (w : World) : Calls Try.prog 116 #[.int .i64 a, .int .i64 b] w fun e w' => e = .returned (.bool (enough a b)) ∧ w = w' := by
  cases h1 : rOk a <;> cases h2 : rOk b
  all_goals
    go_enter Try.func116, Try.ntmps116
    go_wp2_with (go_at_call 127; refine (iRightsOk_c _ _).mono ?_; rintro e w' ⟨rfl, rfl⟩)
    go_ret
    exact ⟨by simp [enough, h1, h2], rfl⟩
theorem sBrought_c (n a b : Int) (w : World) : Calls Try.prog 95 #[.int .i64 n, .int .i64 a, .int .i64 b] w fun e w' => e = .returned (.int .i64 (brought n a b)) ∧ w = w' := by
  by_cases h1 : n < a <;> by_cases h2 : b < a <;> by_cases h3 : n ≤ b
  all_goals (first | (exfalso; omega) | skip)
  all_goals
    go_enter Try.func95, Try.ntmps95
    go_wp2
    go_ret
    exact ⟨by unfold brought; (repeat' split) <;> first | rfl | (exfalso; omega) | (congr 2; omega), rfl⟩
theorem iBrought_c (n a b : Int) (w : World) : Calls Try.prog 97 #[.int .i64 n, .int .i64 a, .int .i64 b] w fun e w' => e = .returned (.int .i64 (brought n a b)) ∧ w = w' := by
  by_cases h1 : n < a <;> by_cases h2 : b < a <;> by_cases h3 : n ≤ b
  all_goals (first | (exfalso; omega) | skip)
  all_goals
    go_enter Try.func97, Try.ntmps97
    go_wp2
    go_ret
    exact ⟨by unfold brought; (repeat' split) <;> first | rfl | (exfalso; omega) | (congr 2; omega), rfl⟩
theorem l01In_v {n a b : Int} {v : Bool} (h : inB n a b = v) (w : World) : Calls Try.prog 118 #[.int .i64 n, .int .i64 a, .int .i64 b] w fun e w' => e = .returned (.bool v) ∧ w = w' := by
  subst h; exact l01In_c n a b w
theorem within_v {n a b : Int} {v : Bool} (h : inB n a b = v) (w : World) : Calls Try.prog 117 #[.int .i64 n, .int .i64 a, .int .i64 b] w fun e w' => e = .returned (.bool v) ∧ w = w' := by
  subst h; exact within_c n a b w
theorem has_v {n a : Int} {v : Bool} (h : hasB n a = v) (w : World) : Calls Try.prog 104 #[.int .i64 n, .int .i64 a] w fun e w' => e = .returned (.bool v) ∧ w = w' := by
  subst h; exact has_c n a w
theorem sRightsOk_v {r : Int} {v : Bool} (h : rOk r = v) (w : World) : Calls Try.prog 119 #[.int .i64 r] w fun e w' => e = .returned (.bool v) ∧ w = w' := by
  subst h; exact sRightsOk_c r w
theorem iRightsOk_v {r : Int} {v : Bool} (h : rOk r = v) (w : World) : Calls Try.prog 127 #[.int .i64 r] w fun e w' => e = .returned (.bool v) ∧ w = w' := by
  subst h; exact iRightsOk_c r w
theorem sEnough_v {a b : Int} {v : Bool} (h : enough a b = v) (w : World) : Calls Try.prog 67 #[.int .i64 a, .int .i64 b] w fun e w' => e = .returned (.bool v) ∧ w = w' := by
  subst h; exact sEnough_c a b w
theorem iEnough_v {a b : Int} {v : Bool} (h : enough a b = v) (w : World) : Calls Try.prog 116 #[.int .i64 a, .int .i64 b] w fun e w' => e = .returned (.bool v) ∧ w = w' := by
  subst h; exact iEnough_c a b w
end Go.Proofs.Ytlfnhfipnjgifaa
