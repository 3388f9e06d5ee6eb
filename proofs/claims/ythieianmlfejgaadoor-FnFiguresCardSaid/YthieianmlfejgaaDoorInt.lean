/- Contracts of the functions of single numbers, rights and slots: each returns what its plain function says. No condition. -/
import Derived.Test.YthieianmlfejgaaDoorPure
import Derived.Test.YthieianmlfejgaaDoorChecked
import Derived.WalkKit
import Derived.ProofKit
import Derived.Handy
import Derived.WalkLawsBesides
import Derived.WalkSpells
import Derived.BigQuiet
import Derived.Deep.QuietTactic
import Derived.Test.YthieianmlfejgaaDoorQuiet
namespace Go.Proofs.YthieianmlfejgaaDoor
open Go.RowKit
set_option linter.unusedVariables false
set_option maxHeartbeats 400000

theorem within_c (n a b : Int) (w : World) : Calls Tryd.prog 17 #[.int .i64 n, .int .i64 a, .int .i64 b] w fun e w' => e = .returned (.bool (inB n a b)) ∧ w = w' := by
  by_cases h1 : a ≤ n <;> by_cases h2 : n ≤ b
  all_goals
    go_enter Tryd.func17, Tryd.ntmps17
    go_wp2
    go_ret
    exact ⟨by simp [inB, h1, h2], rfl⟩
theorem iBrought_c (n a b : Int) (w : World) : Calls Tryd.prog 14 #[.int .i64 n, .int .i64 a, .int .i64 b] w fun e w' => e = .returned (.int .i64 (brought n a b)) ∧ w = w' := by
  by_cases h1 : n < a <;> by_cases h2 : b < a <;> by_cases h3 : n ≤ b
  all_goals (first | (exfalso; omega) | skip)
  all_goals
    go_enter Tryd.func14, Tryd.ntmps14
    go_wp2
    go_ret
    exact ⟨by unfold brought; (repeat' split) <;> first | rfl | (exfalso; omega) | (congr 2; omega), rfl⟩
theorem within_v {n a b : Int} {v : Bool} (h : inB n a b = v) (w : World) : Calls Tryd.prog 17 #[.int .i64 n, .int .i64 a, .int .i64 b] w fun e w' => e = .returned (.bool v) ∧ w = w' := by
  subst h; exact within_c n a b w
end Go.Proofs.YthieianmlfejgaaDoor
