/- Drawn rights and needs: each is one of a short list. Condition: the code holds at most 1048576 bytes. -/
import Derived.Test.YtlfnhfipnjgifaaDraw
namespace Go.Proofs.Ytlfnhfipnjgifaa
open Go.RowKit
set_option linter.unusedVariables false
set_option maxHeartbeats 1000000
set_option maxRecDepth 20000

def rightsL : List Int := [3, 3, 1, 2, 0, 3, 1, -1, 4, 9223372036854775807]
theorem l02Rights_c (S g : Nat) (w : World) (hc : Cur w S g) : Calls Try.prog 112 #[.pointer (some ⟨g, 0, none⟩)] w (PickOut w S g rightsL) := by
  have hlt := hc.lt
  have hlit := World.ownsRow_lit (base := w.heap.size) (e := 3) (size := 1) w #[.int .i64 3, .int .i64 3, .int .i64 1, .int .i64 2, .int .i64 0, .int .i64 3, .int .i64 1, .int .i64 (-1), .int .i64 4, .int .i64 9223372036854775807] 10 (Nat.le_refl _) (by unfold maxLen; omega) (by simp)
  have g0 := grown_alloc (World.grownBy.refl w (some g)) (.cells #[.int .i64 3, .int .i64 3, .int .i64 1, .int .i64 2, .int .i64 0, .int .i64 3, .int .i64 1, .int .i64 (-1), .int .i64 4, .int .i64 9223372036854775807] 3)
  have HC := Lib.hid (hc.below ((Below.refl _ _).alloc (Nat.le_refl _) (.cells #[.int .i64 3, .int .i64 3, .int .i64 1, .int .i64 2, .int .i64 0, .int .i64 3, .int .i64 1, .int .i64 (-1), .int .i64 4, .int .i64 9223372036854775807] 3)))
  have HR := Lib.hid (Rd.of_own hlit)
  clear hlit hc
  go_enter Try.func112, Try.ntmps112
  go_wp2_with fail
  refine (l01PickInt_c S g (some ⟨w.heap.size, 0, none⟩) 10 10 rightsL _ HC.out HR.out (by omega) (by omega) (by intro b o e; injection e with e; injection e with e; omega)).mono ?_
  rintro e w1 ⟨x, rfl, hx, hc1, g1⟩
  have HX := Lib.hid hx
  clear hx
  go_wp2
  go_ret
  exact ⟨x, rfl, HX.out, hc1, grown_trans g0 g1⟩
theorem rights_in {x : Int} (h : x ∈ rightsL) : -1 ≤ x ∧ x ≤ 9223372036854775807 := by
  simp [rightsL] at h
  omega
end Go.Proofs.Ytlfnhfipnjgifaa
