/- Drawn arguments of the laws over memories. Condition: the code holds at most 1048576 bytes. -/
import Derived.Test.YtjgphiialfhdlaaDrawN
namespace Go.Proofs.Ytjgphiialfhdlaa
open Go.RowKit
set_option linter.unusedVariables false
set_option maxHeartbeats 1000000
set_option maxRecDepth 20000

/-- A memory that was drawn. -/
def DrawnM (w : World) (A : Option Addr) (n : Nat) (L : List (List Int)) : Prop := n ≤ 3 ∧ Short L ∧ Mx w A n L
/-- A page that was drawn. -/
def DrawnP (w : World) (A : Option Addr) (n : Nat) (l : List Int) : Prop := n ≤ 5 ∧ Rd w 1 A n (intCells l)
def Int64 (x : Int) : Prop := -9223372036854775808 ≤ x ∧ x ≤ 9223372036854775807
theorem mem64 {x : Int} {l : List Int} (h : x ∈ l) (hl : l.all (fun y => decide (-9223372036854775808 ≤ y) && decide (y ≤ 9223372036854775807)) = true) : Int64 x := by
  have := List.all_eq_true.1 hl x h
  simpa [Int64] using this
def DrawPageOkOut (w : World) (e : Ending) (w' : World) : Prop := ∃ (A0 : Option Addr) (n0 c0 : Nat) (l0 : List Int), e = .returned (.slice A0 n0 c0) ∧ DrawnP w' A0 n0 l0 ∧ Below w.heap.size w w'
theorem DrawPageOk_c (A : Option Addr) (n c : Nat) (w : World) (hb : Bytes w w.heap.size A n) (hn : n ≤ 1048576) : Calls Try.prog 48 #[.slice A n c] w (DrawPageOkOut w) := by
  go_enter Try.func48, Try.ntmps48
  have hz := Below.refl w.heap.size w
  have hbz := hb
  go_wp2_with fail
  refine (l01New_c A n c _ hbz hn).mono ?_
  rintro e w1 ⟨g, rfl, hg, hc1, hb1⟩
  have hgw : w.heap.size ≤ g := Nat.le_trans hz.size hg
  have H1 := Lib.hid (hz.trans (hb1.mono hz.size))
  clear hb hbz hz hb1
  go_wp2_with fail
  refine (l04Cells_c _ g _ hc1 hg).mono ?_
  rintro e w2 ⟨A0, n0, c0, l0, rfl, hn0, R0, ne0, hc2, g2⟩
  have T0 := Lib.hid R0
  have N0 := Lib.hid hn0
  clear R0 hn0
  have H2 := Lib.hid (below_cur H1.out g2 hgw)
  clear H1
  go_wp2
  go_ret
  exact ⟨_, _, _, l0, rfl, ⟨N0.out, T0.out⟩, H2.out⟩
def DrawMemOkOut (w : World) (e : Ending) (w' : World) : Prop := ∃ (A0 : Option Addr) (n0 c0 : Nat) (l0 : List (List Int)) (x1 : Int), e = .returned (.tuple #[.slice A0 n0 c0, .int .i64 x1]) ∧ DrawnM w' A0 n0 l0 ∧ Int64 x1 ∧ Below w.heap.size w w'
theorem DrawMemOk_c (A : Option Addr) (n c : Nat) (w : World) (hb : Bytes w w.heap.size A n) (hn : n ≤ 1048576) : Calls Try.prog 47 #[.slice A n c] w (DrawMemOkOut w) := by
  go_enter Try.func47, Try.ntmps47
  have hz := Below.refl w.heap.size w
  have hbz := hb
  go_wp2_with fail
  refine (l01New_c A n c _ hbz hn).mono ?_
  rintro e w1 ⟨g, rfl, hg, hc1, hb1⟩
  have hgw : w.heap.size ≤ g := Nat.le_trans hz.size hg
  have H1 := Lib.hid (hz.trans (hb1.mono hz.size))
  clear hb hbz hz hb1
  go_wp2_with fail
  refine (l04Any_c _ g _ hc1 hg).mono ?_
  rintro e w2 ⟨A0, n0, c0, l0, rfl, hn0, hs0, R0, hc2, g2⟩
  have T0 := Lib.hid R0
  have N0 := Lib.hid hn0
  have S0 := Lib.hid hs0
  clear hs0
  clear R0 hn0
  have H2 := Lib.hid (below_cur H1.out g2 hgw)
  clear H1
  have hlt2 := hc2.lt
  have hlit := World.ownsRow_lit (base := w2.heap.size) (e := 3) (size := 1) w2 #[.int .i64 3, .int .i64 3, .int .i64 3, .int .i64 2, .int .i64 (-1)] 5 (Nat.le_refl _) (by unfold maxLen; omega) (by simp)
  have hbl := (Below.refl w2.heap.size w2).alloc (Nat.le_refl _) (.cells #[.int .i64 3, .int .i64 3, .int .i64 3, .int .i64 2, .int .i64 (-1)] 3)
  have HC := Lib.hid (hc2.below hbl)
  have HR := Lib.hid (Rd.of_own hlit)
  have HH := Lib.hid (H2.out.trans (hbl.mono H2.out.size))
  have T0' := Lib.hid (T0.out.below hbl)
  clear T0
  have T0 := T0'
  clear T0'
  clear hlit hbl hc2 H2
  go_wp2_with fail
  refine (l01PickInt_c _ g (some ⟨w2.heap.size, 0, none⟩) 5 5 [3, 3, 3, 2, -1] _ HC.out HR.out (by omega) (by omega) (by intro b o e; injection e with e; injection e with e; omega)).mono ?_
  rintro e w3 ⟨x1, rfl, hx, hc3, g3⟩
  have m1 := Lib.hid (mem64 hx (by decide))
  have H3 := Lib.hid (below_cur HH.out g3 hgw)
  clear hx HC HR HH
  have T0' := Lib.hid (T0.out.cur g3)
  clear T0
  have T0 := T0'
  clear T0'
  go_wp2
  go_returns
  exact ⟨_, _, _, l0, _, rfl, ⟨N0.out, S0.out, T0.out.mx⟩, m1.out, H3.out⟩
def DrawTableNewOut (w : World) (e : Ending) (w' : World) : Prop := ∃ (x0 : Int), e = .returned (.int .i64 x0) ∧ Int64 x0 ∧ Below w.heap.size w w'
theorem DrawTableNew_c (A : Option Addr) (n c : Nat) (w : World) (hb : Bytes w w.heap.size A n) (hn : n ≤ 1048576) : Calls Try.prog 75 #[.slice A n c] w (DrawTableNewOut w) := by
  go_enter Try.func75, Try.ntmps75
  have hz := Below.refl w.heap.size w
  have hbz := hb
  go_wp2_with fail
  refine (l01New_c A n c _ hbz hn).mono ?_
  rintro e w1 ⟨g, rfl, hg, hc1, hb1⟩
  have hgw : w.heap.size ≤ g := Nat.le_trans hz.size hg
  have H1 := Lib.hid (hz.trans (hb1.mono hz.size))
  clear hb hbz hz hb1
  have hlt1 := hc1.lt
  have hlit := World.ownsRow_lit (base := w1.heap.size) (e := 3) (size := 1) w1 #[.int .i64 0, .int .i64 1, .int .i64 4, .int .i64 8, .int .i64 24, .int .i64 25, .int .i64 (-1), .int .i64 9223372036854775807] 8 (Nat.le_refl _) (by unfold maxLen; omega) (by simp)
  have hbl := (Below.refl w1.heap.size w1).alloc (Nat.le_refl _) (.cells #[.int .i64 0, .int .i64 1, .int .i64 4, .int .i64 8, .int .i64 24, .int .i64 25, .int .i64 (-1), .int .i64 9223372036854775807] 3)
  have HC := Lib.hid (hc1.below hbl)
  have HR := Lib.hid (Rd.of_own hlit)
  have HH := Lib.hid (H1.out.trans (hbl.mono H1.out.size))
  clear hlit hbl hc1 H1
  go_wp2_with fail
  refine (l01PickInt_c _ g (some ⟨w1.heap.size, 0, none⟩) 8 8 [0, 1, 4, 8, 24, 25, -1, 9223372036854775807] _ HC.out HR.out (by omega) (by omega) (by intro b o e; injection e with e; injection e with e; omega)).mono ?_
  rintro e w2 ⟨x0, rfl, hx, hc2, g2⟩
  have m0 := Lib.hid (mem64 hx (by decide))
  have H2 := Lib.hid (below_cur HH.out g2 hgw)
  clear hx HC HR HH
  go_wp2
  go_ret
  exact ⟨_, rfl, m0.out, H2.out⟩
def DrawCellAtOut (w : World) (e : Ending) (w' : World) : Prop := ∃ (A0 : Option Addr) (n0 c0 : Nat) (l0 : List (List Int)) (x1 : Int) (x2 : Int), e = .returned (.tuple #[.slice A0 n0 c0, .int .i64 x1, .int .i64 x2]) ∧ DrawnM w' A0 n0 l0 ∧ Int64 x1 ∧ Int64 x2 ∧ Below w.heap.size w w'
theorem DrawCellAt_c (A : Option Addr) (n c : Nat) (w : World) (hb : Bytes w w.heap.size A n) (hn : n ≤ 1048576) : Calls Try.prog 43 #[.slice A n c] w (DrawCellAtOut w) := by
  go_enter Try.func43, Try.ntmps43
  have hz := Below.refl w.heap.size w
  have hbz := hb
  go_wp2_with fail
  refine (l01New_c A n c _ hbz hn).mono ?_
  rintro e w1 ⟨g, rfl, hg, hc1, hb1⟩
  have hgw : w.heap.size ≤ g := Nat.le_trans hz.size hg
  have H1 := Lib.hid (hz.trans (hb1.mono hz.size))
  clear hb hbz hz hb1
  go_wp2_with fail
  refine (l04Any_c _ g _ hc1 hg).mono ?_
  rintro e w2 ⟨A0, n0, c0, l0, rfl, hn0, hs0, R0, hc2, g2⟩
  have T0 := Lib.hid R0
  have N0 := Lib.hid hn0
  have S0 := Lib.hid hs0
  clear hs0
  clear R0 hn0
  have H2 := Lib.hid (below_cur H1.out g2 hgw)
  clear H1
  have hlt2 := hc2.lt
  have hlit := World.ownsRow_lit (base := w2.heap.size) (e := 3) (size := 1) w2 #[.int .i64 0, .int .i64 1, .int .i64 2, .int .i64 3, .int .i64 (-1)] 5 (Nat.le_refl _) (by unfold maxLen; omega) (by simp)
  have hbl := (Below.refl w2.heap.size w2).alloc (Nat.le_refl _) (.cells #[.int .i64 0, .int .i64 1, .int .i64 2, .int .i64 3, .int .i64 (-1)] 3)
  have HC := Lib.hid (hc2.below hbl)
  have HR := Lib.hid (Rd.of_own hlit)
  have HH := Lib.hid (H2.out.trans (hbl.mono H2.out.size))
  have T0' := Lib.hid (T0.out.below hbl)
  clear T0
  have T0 := T0'
  clear T0'
  clear hlit hbl hc2 H2
  go_wp2_with fail
  refine (l01PickInt_c _ g (some ⟨w2.heap.size, 0, none⟩) 5 5 [0, 1, 2, 3, -1] _ HC.out HR.out (by omega) (by omega) (by intro b o e; injection e with e; injection e with e; omega)).mono ?_
  rintro e w3 ⟨x1, rfl, hx, hc3, g3⟩
  have m1 := Lib.hid (mem64 hx (by decide))
  have H3 := Lib.hid (below_cur HH.out g3 hgw)
  clear hx HC HR HH
  have T0' := Lib.hid (T0.out.cur g3)
  clear T0
  have T0 := T0'
  clear T0'
  have hlt3 := hc3.lt
  have hlit := World.ownsRow_lit (base := w3.heap.size) (e := 3) (size := 1) w3 #[.int .i64 0, .int .i64 1, .int .i64 3, .int .i64 4, .int .i64 (-1), .int .i64 9223372036854775807] 6 (Nat.le_refl _) (by unfold maxLen; omega) (by simp)
  have hbl := (Below.refl w3.heap.size w3).alloc (Nat.le_refl _) (.cells #[.int .i64 0, .int .i64 1, .int .i64 3, .int .i64 4, .int .i64 (-1), .int .i64 9223372036854775807] 3)
  have HC := Lib.hid (hc3.below hbl)
  have HR := Lib.hid (Rd.of_own hlit)
  have HH := Lib.hid (H3.out.trans (hbl.mono H3.out.size))
  have T0' := Lib.hid (T0.out.below hbl)
  clear T0
  have T0 := T0'
  clear T0'
  clear hlit hbl hc3 H3
  go_wp2_with fail
  refine (l01PickInt_c _ g (some ⟨w3.heap.size, 0, none⟩) 6 6 [0, 1, 3, 4, -1, 9223372036854775807] _ HC.out HR.out (by omega) (by omega) (by intro b o e; injection e with e; injection e with e; omega)).mono ?_
  rintro e w4 ⟨x2, rfl, hx, hc4, g4⟩
  have m2 := Lib.hid (mem64 hx (by decide))
  have H4 := Lib.hid (below_cur HH.out g4 hgw)
  clear hx HC HR HH
  have T0' := Lib.hid (T0.out.cur g4)
  clear T0
  have T0 := T0'
  clear T0'
  go_wp2
  go_returns
  exact ⟨_, _, _, l0, _, _, rfl, ⟨N0.out, S0.out, T0.out.mx⟩, m1.out, m2.out, H4.out⟩
def DrawWithPageOut (w : World) (e : Ending) (w' : World) : Prop := ∃ (A0 : Option Addr) (n0 c0 : Nat) (l0 : List (List Int)) (x1 : Int) (A2 : Option Addr) (n2 c2 : Nat) (l2 : List Int), e = .returned (.tuple #[.slice A0 n0 c0, .int .i64 x1, .slice A2 n2 c2]) ∧ DrawnM w' A0 n0 l0 ∧ Int64 x1 ∧ DrawnP w' A2 n2 l2 ∧ Below w.heap.size w w'
theorem DrawWithPage_c (A : Option Addr) (n c : Nat) (w : World) (hb : Bytes w w.heap.size A n) (hn : n ≤ 1048576) : Calls Try.prog 45 #[.slice A n c] w (DrawWithPageOut w) := by
  go_enter Try.func45, Try.ntmps45
  have hz := Below.refl w.heap.size w
  have hbz := hb
  go_wp2_with fail
  refine (l01New_c A n c _ hbz hn).mono ?_
  rintro e w1 ⟨g, rfl, hg, hc1, hb1⟩
  have hgw : w.heap.size ≤ g := Nat.le_trans hz.size hg
  have H1 := Lib.hid (hz.trans (hb1.mono hz.size))
  clear hb hbz hz hb1
  go_wp2_with fail
  refine (l04Any_c _ g _ hc1 hg).mono ?_
  rintro e w2 ⟨A0, n0, c0, l0, rfl, hn0, hs0, R0, hc2, g2⟩
  have T0 := Lib.hid R0
  have N0 := Lib.hid hn0
  have S0 := Lib.hid hs0
  clear hs0
  clear R0 hn0
  have H2 := Lib.hid (below_cur H1.out g2 hgw)
  clear H1
  have hlt2 := hc2.lt
  have hlit := World.ownsRow_lit (base := w2.heap.size) (e := 3) (size := 1) w2 #[.int .i64 0, .int .i64 1, .int .i64 2, .int .i64 3, .int .i64 (-1)] 5 (Nat.le_refl _) (by unfold maxLen; omega) (by simp)
  have hbl := (Below.refl w2.heap.size w2).alloc (Nat.le_refl _) (.cells #[.int .i64 0, .int .i64 1, .int .i64 2, .int .i64 3, .int .i64 (-1)] 3)
  have HC := Lib.hid (hc2.below hbl)
  have HR := Lib.hid (Rd.of_own hlit)
  have HH := Lib.hid (H2.out.trans (hbl.mono H2.out.size))
  have T0' := Lib.hid (T0.out.below hbl)
  clear T0
  have T0 := T0'
  clear T0'
  clear hlit hbl hc2 H2
  go_wp2_with fail
  refine (l01PickInt_c _ g (some ⟨w2.heap.size, 0, none⟩) 5 5 [0, 1, 2, 3, -1] _ HC.out HR.out (by omega) (by omega) (by intro b o e; injection e with e; injection e with e; omega)).mono ?_
  rintro e w3 ⟨x1, rfl, hx, hc3, g3⟩
  have m1 := Lib.hid (mem64 hx (by decide))
  have H3 := Lib.hid (below_cur HH.out g3 hgw)
  clear hx HC HR HH
  have T0' := Lib.hid (T0.out.cur g3)
  clear T0
  have T0 := T0'
  clear T0'
  go_wp2_with fail
  refine (l04Cells_c _ g _ hc3 hg).mono ?_
  rintro e w4 ⟨A2, n2, c2, l2, rfl, hn2, R2, ne2, hc4, g4⟩
  have T2 := Lib.hid R2
  have N2 := Lib.hid hn2
  clear R2 hn2
  have H4 := Lib.hid (below_cur H3.out g4 hgw)
  clear H3
  have T0' := Lib.hid (T0.out.cur g4)
  clear T0
  have T0 := T0'
  clear T0'
  go_wp2
  go_returns
  exact ⟨_, _, _, l0, _, _, _, _, l2, rfl, ⟨N0.out, S0.out, T0.out.mx⟩, m1.out, ⟨N2.out, T2.out⟩, H4.out⟩
def DrawMemNewOut (w : World) (e : Ending) (w' : World) : Prop := ∃ (x0 : Int), e = .returned (.int .i64 x0) ∧ Int64 x0 ∧ Below w.heap.size w w'
theorem DrawMemNew_c (A : Option Addr) (n c : Nat) (w : World) (hb : Bytes w w.heap.size A n) (hn : n ≤ 1048576) : Calls Try.prog 50 #[.slice A n c] w (DrawMemNewOut w) := by
  go_enter Try.func50, Try.ntmps50
  go_wp2_with fail
  refine (DrawTableNew_c A n c w hb hn).mono ?_
  rintro e w1 ⟨x, rfl, hx, hbel⟩
  have HX := Lib.hid hx
  clear hx
  go_wp2
  go_ret
  exact ⟨x, rfl, HX.out, hbel⟩
def DrawPageAtOut (w : World) (e : Ending) (w' : World) : Prop := ∃ (A0 : Option Addr) (n0 c0 : Nat) (l0 : List (List Int)) (x1 : Int), e = .returned (.tuple #[.slice A0 n0 c0, .int .i64 x1]) ∧ DrawnM w' A0 n0 l0 ∧ Int64 x1 ∧ Below w.heap.size w w'
theorem DrawPageAt_c (A : Option Addr) (n c : Nat) (w : World) (hb : Bytes w w.heap.size A n) (hn : n ≤ 1048576) : Calls Try.prog 46 #[.slice A n c] w (DrawPageAtOut w) := by
  go_enter Try.func46, Try.ntmps46
  go_wp2_with fail
  refine (DrawCellAt_c A n c w hb hn).mono ?_
  rintro e w1 ⟨A0, n0, c0, l0, x1, x2, rfl, D0, hx, hx2, hbel⟩
  have HX := Lib.hid hx
  have HD := Lib.hid D0
  clear hx hx2 D0
  go_wp2
  go_returns
  exact ⟨A0, n0, c0, l0, x1, rfl, HD.out, HX.out, hbel⟩
def DrawWithCellOut (w : World) (e : Ending) (w' : World) : Prop := ∃ (A0 : Option Addr) (n0 c0 : Nat) (l0 : List (List Int)) (x1 : Int) (x2 : Int) (x3 : Int), e = .returned (.tuple #[.slice A0 n0 c0, .int .i64 x1, .int .i64 x2, .int .i64 x3]) ∧ DrawnM w' A0 n0 l0 ∧ Int64 x1 ∧ Int64 x2 ∧ Int64 x3 ∧ Below w.heap.size w w'
theorem DrawWithCell_c (A : Option Addr) (n c : Nat) (w : World) (hb : Bytes w w.heap.size A n) (hn : n ≤ 1048576) : Calls Try.prog 42 #[.slice A n c] w (DrawWithCellOut w) := by
  go_enter Try.func42, Try.ntmps42
  go_wp2_with fail
  refine (DrawCellAt_c A n c w hb hn).mono ?_
  rintro e w1 ⟨A0, n0, c0, l0, x1, x2, rfl, D0, hx, hx2, hbel⟩
  have HX := Lib.hid hx
  have HX2 := Lib.hid hx2
  have HN := Lib.hid D0.1
  have HS := Lib.hid D0.2.1
  have HM := Lib.hid D0.2.2
  have HB := Lib.hid (hb.grow hbel)
  have HL := Lib.hid hbel
  clear hx hx2 D0 hb hbel
  go_wp2_with fail
  refine (l01New_c A n c _ HB.out hn).mono ?_
  rintro e w2 ⟨g, rfl, hg, hc, hb2⟩
  have hlt := hc.lt
  have hlit := World.ownsRow_lit (base := w2.heap.size) (e := 3) (size := 1) w2 #[.int .i64 0, .int .i64 7, .int .i64 99, .int .i64 100, .int .i64 (-1)] 5 (Nat.le_refl _) (by unfold maxLen; omega) (by simp)
  have hbl := (Below.refl w2.heap.size w2).alloc (Nat.le_refl _) (.cells #[.int .i64 0, .int .i64 7, .int .i64 99, .int .i64 100, .int .i64 (-1)] 3)
  have HC := Lib.hid (hc.below hbl)
  have HR := Lib.hid (Rd.of_own hlit)
  have HK := Lib.hid (hb2.trans (hbl.mono hb2.size))
  clear hlit hbl hc HB hb2
  go_wp2_with fail
  refine (l01PickInt_c _ g (some ⟨w2.heap.size, 0, none⟩) 5 5 [0, 7, 99, 100, -1] _ HC.out HR.out (by omega) (by omega) (by intro b o e; injection e with e; injection e with e; omega)).mono ?_
  rintro e w3 ⟨x3, rfl, hx, hc3, g3⟩
  have m3 := Lib.hid (mem64 hx (by decide))
  have hk := below_cur HK.out g3 hg
  have HM3 := Lib.hid (HM.out.below hk)
  have H3 := Lib.hid (HL.out.trans (hk.mono HL.out.size))
  clear hx HC HR HK hk HM HL
  go_wp2
  go_returns
  exact ⟨A0, n0, c0, l0, x1, x2, x3, rfl, ⟨HN.out, HS.out, HM3.out⟩, HX.out, HX2.out, m3.out, H3.out⟩
def DrawSameMemOut (w : World) (e : Ending) (w' : World) : Prop := ∃ (A0 : Option Addr) (n0 c0 : Nat) (l0 : List (List Int)) (A1 : Option Addr) (n1 c1 : Nat) (l1 : List (List Int)), e = .returned (.tuple #[.slice A0 n0 c0, .slice A1 n1 c1]) ∧ DrawnM w' A0 n0 l0 ∧ DrawnM w' A1 n1 l1 ∧ Below w.heap.size w w'
theorem DrawSameMem_c (A : Option Addr) (n c : Nat) (w : World) (hb : Bytes w w.heap.size A n) (hn : n ≤ 1048576) : Calls Try.prog 49 #[.slice A n c] w (DrawSameMemOut w) := by
  go_enter Try.func49, Try.ntmps49
  have hz := Below.refl w.heap.size w
  go_wp2_with fail
  refine (l01New_c A n c _ hb hn).mono ?_
  rintro e w1 ⟨g, rfl, hg, hc1, hb1⟩
  have hgw : w.heap.size ≤ g := Nat.le_trans hz.size hg
  have H1 := Lib.hid (hz.trans (hb1.mono hz.size))
  clear hb hz hb1
  go_wp2_with fail
  refine (l04Any_c _ g _ hc1 hg).mono ?_
  rintro e w2 ⟨A0, n0, c0, l0, rfl, hn0, hs0, R0, hc2, g2⟩
  have H2 := Lib.hid (below_cur H1.out g2 hgw)
  have N0 := Lib.hid hn0
  have S0 := Lib.hid hs0
  have T0 := Lib.hid R0
  clear hn0 hs0 R0 H1 hc1
  go_wp2_with fail
  refine (l01Once_c _ _ 2 _ hc2 (by omega)).mono ?_
  rintro e w3 ⟨x, rfl, hc3, g3⟩
  have H3 := Lib.hid (below_cur H2.out g3 hgw)
  have T0' := Lib.hid (T0.out.cur g3)
  clear T0 H2 hc2
  cases x
  · go_wp2_with fail
    refine (l04Any_c _ g _ hc3 hg).mono ?_
    rintro e w4 ⟨A1, n1, c1, l1, rfl, hn1, hs1, R1, hc4, g4⟩
    have H4 := Lib.hid (below_cur H3.out g4 hgw)
    have T1 := Lib.hid (T0'.out.cur g4)
    have D1 : Hid (DrawnM w4 A1 n1 l1) := Lib.hid ⟨hn1, hs1, R1.mx⟩
    clear hn1 hs1 R1 T0' H3
    go_wp2
    go_returns
    exact ⟨A0, n0, c0, l0, A1, n1, c1, l1, rfl, ⟨N0.out, S0.out, T1.out.mx⟩, D1.out, H4.out⟩
  · have hn0 := N0.out
    go_wp2_with fail
    refine (l04Copy_c A0 n0 c0 l0 _ T0'.out.mx (by omega) S0.out.rows).mono ?_
    rintro e w4 ⟨A1, c1, vs1, rfl, O1, hb4⟩
    have T1 := Lib.hid (T0'.out.below hb4)
    have H4 := Lib.hid (H3.out.trans (hb4.mono H3.out.size))
    have D1 : Hid (DrawnM w4 A1 n0 l0) := Lib.hid ⟨hn0, S0.out, O1.mx⟩
    clear O1 hb4 T0' H3
    go_wp2
    go_returns
    exact ⟨A0, n0, c0, l0, A1, n0, c1, l0, rfl, ⟨N0.out, S0.out, T1.out.mx⟩, D1.out, H4.out⟩
end Go.Proofs.Ytjgphiialfhdlaa
