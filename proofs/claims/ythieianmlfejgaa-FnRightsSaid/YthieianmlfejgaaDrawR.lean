/- Drawn rights and needs: each is one of a short list. Condition: the code holds at most 1048576 bytes. -/
import Derived.Test.YthieianmlfejgaaDraw
namespace Go.Proofs.Ythieianmlfejgaa
open Go.RowKit
set_option linter.unusedVariables false
set_option maxHeartbeats 1000000

theorem grown_alloc' {W w : World} {g : Nat} (h : W.grownBy w (some g)) (X : Obj) : W.grownBy (w.alloc X) (some g) :=
  ⟨h.os, h.tape, h.output, by have := h.size; simp; omega, fun k hk hne => (((Below.refl w.heap.size w).alloc (Nat.le_refl _) X).block k (Nat.lt_of_lt_of_le hk h.size)).trans (h.block k hk hne)⟩
theorem below_cur {W w w' : World} {g : Nat} (hb : Below W.heap.size W w) (h : w.grownBy w' (some g)) (hg : W.heap.size ≤ g) : Below W.heap.size W w' := hb.grown h hb.size (fun k e => by cases e; exact hg)
def rightsL : List Int := [3, 3, 1, 2, 0, 3, 1, -1, 4, 9223372036854775807]
theorem l02Rights_c (S g : Nat) (w : World) (hc : Cur w S g) : Calls Try.prog 42 #[.pointer (some ⟨g, 0, none⟩)] w (PickOut w S g rightsL) := by
  have hlt := hc.lt
  have hlit := World.ownsRow_lit (base := w.heap.size) (e := 3) (size := 1) w #[.int .i64 3, .int .i64 3, .int .i64 1, .int .i64 2, .int .i64 0, .int .i64 3, .int .i64 1, .int .i64 (-1), .int .i64 4, .int .i64 9223372036854775807] 10 (Nat.le_refl _) (by unfold maxLen; omega) (by simp)
  have g0 := grown_alloc' (World.grownBy.refl w (some g)) (.cells #[.int .i64 3, .int .i64 3, .int .i64 1, .int .i64 2, .int .i64 0, .int .i64 3, .int .i64 1, .int .i64 (-1), .int .i64 4, .int .i64 9223372036854775807] 3)
  have HC := Lib.hid (hc.below ((Below.refl _ _).alloc (Nat.le_refl _) (.cells #[.int .i64 3, .int .i64 3, .int .i64 1, .int .i64 2, .int .i64 0, .int .i64 3, .int .i64 1, .int .i64 (-1), .int .i64 4, .int .i64 9223372036854775807] 3)))
  have HR := Lib.hid (Rd.of_own hlit)
  clear hlit hc
  go_enter Try.func42, Try.ntmps42
  go_wp2_with fail
  refine (l01PickInt_c S g (some ⟨w.heap.size, 0, none⟩) 10 10 rightsL _ HC.out HR.out (by omega) (by omega) (by intro b o e; injection e with e; injection e with e; omega)).mono ?_
  rintro e w1 ⟨x, rfl, hx, hc1, g1⟩
  have HX := Lib.hid hx
  clear hx
  go_wp2
  go_ret
  exact ⟨x, rfl, HX.out, hc1, grown_trans g0 g1⟩
theorem rights_in {x : Int} (h : x ∈ rightsL) : -1 ≤ x ∧ x ≤ 9223372036854775807 := by
  simp [rightsL] at h
  omega
def TwoOut (w : World) (e : Ending) (w' : World) : Prop := ∃ a b : Int, e = .returned (.tuple #[.int .i64 a, .int .i64 b]) ∧ Below w.heap.size w w'
theorem l02Two_c (A : Option Addr) (n c : Nat) (w : World) (hb : Bytes w w.heap.size A n) (hn : n ≤ 1048576) : Calls Try.prog 40 #[.slice A n c] w (TwoOut w) := by
  go_enter Try.func40, Try.ntmps40
  go_wp2_with fail
  refine (l01New_c A n c w hb hn).mono ?_
  rintro e w1 ⟨g, rfl, hg, hc, hbel⟩
  go_wp2_with fail
  refine (l02Rights_c _ _ _ hc).mono ?_
  rintro e w2 ⟨x, rfl, hx, hc2, g2⟩
  clear hx
  go_wp2_with fail
  refine (l02Rights_c _ _ _ hc2).mono ?_
  rintro e w3 ⟨y, rfl, hy, hc3, g3⟩
  clear hy
  go_wp2
  go_returns
  exact ⟨_, _, rfl, below_cur (below_cur hbel g2 hg) g3 hg⟩
theorem DrawBothRights_c (A : Option Addr) (n c : Nat) (w : World) (hb : Bytes w w.heap.size A n) (hn : n ≤ 1048576) : Calls Try.prog 21 #[.slice A n c] w (TwoOut w) := by
  go_enter Try.func21, Try.ntmps21
  go_wp2_with fail
  refine (l02Two_c A n c w hb hn).mono ?_
  rintro e w1 ⟨a, b, rfl, hbel⟩
  go_wp2
  go_returns
  exact ⟨_, _, rfl, hbel⟩
theorem DrawEnough_c (A : Option Addr) (n c : Nat) (w : World) (hb : Bytes w w.heap.size A n) (hn : n ≤ 1048576) : Calls Try.prog 22 #[.slice A n c] w (TwoOut w) := by
  go_enter Try.func22, Try.ntmps22
  go_wp2_with fail
  refine (l02Two_c A n c w hb hn).mono ?_
  rintro e w1 ⟨a, b, rfl, hbel⟩
  go_wp2
  go_returns
  exact ⟨_, _, rfl, hbel⟩
theorem DrawNeedOf_c (A : Option Addr) (n c : Nat) (w : World) (hb : Bytes w w.heap.size A n) (hn : n ≤ 1048576) : Calls Try.prog 23 #[.slice A n c] w fun e w' => ∃ x : Bool, e = .returned (.bool x) ∧ Below w.heap.size w w' := by
  go_enter Try.func23, Try.ntmps23
  go_wp2_with fail
  refine (l01New_c A n c w hb hn).mono ?_
  rintro e w1 ⟨g, rfl, hg, hc, hbel⟩
  go_wp2_with fail
  refine (l01Once_c _ _ _ _ hc (by omega)).mono ?_
  rintro e w2 ⟨x, rfl, hc2, g2⟩
  go_wp2
  go_ret
  exact ⟨_, rfl, below_cur hbel g2 hg⟩
theorem DrawRightsText_c (A : Option Addr) (n c : Nat) (w : World) (hb : Bytes w w.heap.size A n) (hn : n ≤ 1048576) : Calls Try.prog 24 #[.slice A n c] w fun e w' => ∃ x : Int, e = .returned (.int .i64 x) ∧ Below w.heap.size w w' := by
  go_enter Try.func24, Try.ntmps24
  go_wp2_with fail
  refine (l01New_c A n c w hb hn).mono ?_
  rintro e w1 ⟨g, rfl, hg, hc, hbel⟩
  go_wp2_with fail
  refine (l02Rights_c _ _ _ hc).mono ?_
  rintro e w2 ⟨x, rfl, hx, hc2, g2⟩
  clear hx
  go_wp2
  go_ret
  exact ⟨_, rfl, below_cur hbel g2 hg⟩
end Go.Proofs.Ythieianmlfejgaa
