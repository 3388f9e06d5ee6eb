/- Drawn arguments of the laws over tables. Condition: the code holds at most 1048576 bytes. -/
import Derived.Test.YtlfnhfipnjgifaaDrawS
namespace Go.Proofs.Ytlfnhfipnjgifaa
open Go.RowKit
set_option linter.unusedVariables false
set_option maxHeartbeats 1000000
set_option maxRecDepth 20000

/-- A table that was drawn: at most N slots. -/
def Drawn (w : World) (N : Nat) (A : Option Addr) (n : Nat) (l : List Sl) : Prop := n ≤ N ∧ Rd w 2 A n (slotCells l)
theorem Drawn.below {w w' : World} {N n : Nat} {A : Option Addr} {l : List Sl} (h : Drawn w N A n l) (hb : Below w.heap.size w w') : Drawn w' N A n l := ⟨h.1, h.2.below hb⟩
def Int64 (x : Int) : Prop := -9223372036854775808 ≤ x ∧ x ≤ 9223372036854775807
theorem mem64 {x : Int} {l : List Int} (h : x ∈ l) (hl : l.all (fun y => decide (-9223372036854775808 ≤ y) && decide (y ≤ 9223372036854775807)) = true) : Int64 x := by
  have := List.all_eq_true.1 hl x h
  simpa [Int64] using this
def DrawTableNewOut (w : World) (e : Ending) (w' : World) : Prop := ∃ (x0 : Int), e = .returned (.int .i64 x0) ∧ Int64 x0 ∧ Below w.heap.size w w'
theorem DrawTableNew_c (A : Option Addr) (n c : Nat) (w : World) (hb : Bytes w w.heap.size A n) (hn : n ≤ 1048576) : Calls Try.prog 83 #[.slice A n c] w (DrawTableNewOut w) := by
  go_enter Try.func83, Try.ntmps83
  have hz := Below.refl w.heap.size w
  have hbz := hb
  go_wp2_with fail
  refine (l01New_c A n c _ hbz hn).mono ?_
  rintro e w1 ⟨g, rfl, hg, hc1, hb1⟩
  have hgw : w.heap.size ≤ g := Nat.le_trans hz.size hg
  have H1 := Lib.hid (hz.trans (hb1.mono hz.size))
  clear hb hbz hz hb1
  have hlt1 := hc1.lt
  have hlit := World.ownsRow_lit (base := w1.heap.size) (e := 3) (size := 1) w1 #[.int .i64 0, .int .i64 1, .int .i64 4, .int .i64 8, .int .i64 24, .int .i64 25, .int .i64 (-1), .int .i64 9223372036854775807] 8 (Nat.le_refl _) (by unfold maxLen; omega) (by simp)
  have hbl := (Below.refl w1.heap.size w1).alloc (Nat.le_refl _) (.cells #[.int .i64 0, .int .i64 1, .int .i64 4, .int .i64 8, .int .i64 24, .int .i64 25, .int .i64 (-1), .int .i64 9223372036854775807] 3)
  have HC := Lib.hid (hc1.below hbl)
  have HR := Lib.hid (Rd.of_own hlit)
  have HH := Lib.hid (H1.out.trans (hbl.mono H1.out.size))
  clear hlit hbl hc1 H1
  go_wp2_with fail
  refine (l01PickInt_c _ g (some ⟨w1.heap.size, 0, none⟩) 8 8 [0, 1, 4, 8, 24, 25, -1, 9223372036854775807] _ HC.out HR.out (by omega) (by omega) (by intro b o e; injection e with e; injection e with e; omega)).mono ?_
  rintro e w2 ⟨x0, rfl, hx, hc2, g2⟩
  have m0 := Lib.hid (mem64 hx (by decide))
  have H2 := Lib.hid (below_cur HH.out g2 hgw)
  clear hx HC HR HH
  go_wp2
  go_ret
  exact ⟨_, rfl, m0.out, H2.out⟩
def DrawTableOkOut (w : World) (e : Ending) (w' : World) : Prop := ∃ (A0 : Option Addr) (n0 c0 : Nat) (l0 : List Sl) (x1 : Int) (x2 : Int), e = .returned (.tuple #[.slice A0 n0 c0, .int .i64 x1, .int .i64 x2]) ∧ Drawn w' 4 A0 n0 l0 ∧ Int64 x1 ∧ Int64 x2 ∧ Below w.heap.size w w'
theorem DrawTableOk_c (A : Option Addr) (n c : Nat) (w : World) (hb : Bytes w w.heap.size A n) (hn : n ≤ 1048576) : Calls Try.prog 77 #[.slice A n c] w (DrawTableOkOut w) := by
  go_enter Try.func77, Try.ntmps77
  have hz := Below.refl w.heap.size w
  have hbz := hb
  go_wp2_with fail
  refine (l01New_c A n c _ hbz hn).mono ?_
  rintro e w1 ⟨g, rfl, hg, hc1, hb1⟩
  have hgw : w.heap.size ≤ g := Nat.le_trans hz.size hg
  have H1 := Lib.hid (hz.trans (hb1.mono hz.size))
  clear hb hbz hz hb1
  go_wp2_with fail
  refine (l03AnyTable_c _ g 4 8 _ hc1 hg (by omega) (by omega) (by omega)).mono ?_
  rintro e w2 ⟨A0, n0, c0, l0, rfl, hn0, R0, nn0, hc2, g2⟩
  have T0 := Lib.hid R0
  have N0 := Lib.hid hn0
  have ne0 := fun p h => (nn0 p h).1
  clear R0 hn0 nn0
  have H2 := Lib.hid (below_cur H1.out g2 hgw)
  clear H1
  have hlt2 := hc2.lt
  have hlit := World.ownsRow_lit (base := w2.heap.size) (e := 3) (size := 1) w2 #[.int .i64 4, .int .i64 4, .int .i64 4, .int .i64 3, .int .i64 (-1)] 5 (Nat.le_refl _) (by unfold maxLen; omega) (by simp)
  have hbl := (Below.refl w2.heap.size w2).alloc (Nat.le_refl _) (.cells #[.int .i64 4, .int .i64 4, .int .i64 4, .int .i64 3, .int .i64 (-1)] 3)
  have HC := Lib.hid (hc2.below hbl)
  have HR := Lib.hid (Rd.of_own hlit)
  have HH := Lib.hid (H2.out.trans (hbl.mono H2.out.size))
  have T0' := Lib.hid (T0.out.below hbl)
  clear T0
  clear hlit hbl hc2 H2
  go_wp2_with fail
  refine (l01PickInt_c _ g (some ⟨w2.heap.size, 0, none⟩) 5 5 [4, 4, 4, 3, -1] _ HC.out HR.out (by omega) (by omega) (by intro b o e; injection e with e; injection e with e; omega)).mono ?_
  rintro e w3 ⟨x1, rfl, hx, hc3, g3⟩
  have m1 := Lib.hid (mem64 hx (by decide))
  have H3 := Lib.hid (below_cur HH.out g3 hgw)
  clear hx HC HR HH
  have T0 := Lib.hid (T0'.out.cur g3 ne0)
  clear T0'
  have hlt3 := hc3.lt
  have hlit := World.ownsRow_lit (base := w3.heap.size) (e := 3) (size := 1) w3 #[.int .i64 8, .int .i64 8, .int .i64 8, .int .i64 4, .int .i64 0] 5 (Nat.le_refl _) (by unfold maxLen; omega) (by simp)
  have hbl := (Below.refl w3.heap.size w3).alloc (Nat.le_refl _) (.cells #[.int .i64 8, .int .i64 8, .int .i64 8, .int .i64 4, .int .i64 0] 3)
  have HC := Lib.hid (hc3.below hbl)
  have HR := Lib.hid (Rd.of_own hlit)
  have HH := Lib.hid (H3.out.trans (hbl.mono H3.out.size))
  have T0' := Lib.hid (T0.out.below hbl)
  clear T0
  clear hlit hbl hc3 H3
  go_wp2_with fail
  refine (l01PickInt_c _ g (some ⟨w3.heap.size, 0, none⟩) 5 5 [8, 8, 8, 4, 0] _ HC.out HR.out (by omega) (by omega) (by intro b o e; injection e with e; injection e with e; omega)).mono ?_
  rintro e w4 ⟨x2, rfl, hx, hc4, g4⟩
  have m2 := Lib.hid (mem64 hx (by decide))
  have H4 := Lib.hid (below_cur HH.out g4 hgw)
  clear hx HC HR HH
  have T0 := Lib.hid (T0'.out.cur g4 ne0)
  clear T0'
  go_wp2
  go_returns
  exact ⟨_, _, _, l0, _, _, rfl, ⟨N0.out, T0.out⟩, m1.out, m2.out, H4.out⟩
def DrawSlotAtOut (w : World) (e : Ending) (w' : World) : Prop := ∃ (A0 : Option Addr) (n0 c0 : Nat) (l0 : List Sl) (x1 : Int), e = .returned (.tuple #[.slice A0 n0 c0, .int .i64 x1]) ∧ Drawn w' 4 A0 n0 l0 ∧ Int64 x1 ∧ Below w.heap.size w w'
theorem DrawSlotAt_c (A : Option Addr) (n c : Nat) (w : World) (hb : Bytes w w.heap.size A n) (hn : n ≤ 1048576) : Calls Try.prog 75 #[.slice A n c] w (DrawSlotAtOut w) := by
  go_enter Try.func75, Try.ntmps75
  have hz := Below.refl w.heap.size w
  have hbz := hb
  go_wp2_with fail
  refine (l01New_c A n c _ hbz hn).mono ?_
  rintro e w1 ⟨g, rfl, hg, hc1, hb1⟩
  have hgw : w.heap.size ≤ g := Nat.le_trans hz.size hg
  have H1 := Lib.hid (hz.trans (hb1.mono hz.size))
  clear hb hbz hz hb1
  go_wp2_with fail
  refine (l03AnyTable_c _ g 4 8 _ hc1 hg (by omega) (by omega) (by omega)).mono ?_
  rintro e w2 ⟨A0, n0, c0, l0, rfl, hn0, R0, nn0, hc2, g2⟩
  have T0 := Lib.hid R0
  have N0 := Lib.hid hn0
  have ne0 := fun p h => (nn0 p h).1
  clear R0 hn0 nn0
  have H2 := Lib.hid (below_cur H1.out g2 hgw)
  clear H1
  go_wp2_with fail
  refine (l03Page_c _ g _ hc2 hg).mono ?_
  rintro e w3 ⟨x1, rfl, hx, hc3, g3⟩
  have m1 := Lib.hid (mem64 hx (by decide))
  clear hx
  have H3 := Lib.hid (below_cur H2.out g3 hgw)
  clear H2
  have T0' := Lib.hid (T0.out.cur g3 ne0)
  clear T0
  have T0 := T0'
  clear T0'
  go_wp2
  go_returns
  exact ⟨_, _, _, l0, _, rfl, ⟨N0.out, T0.out⟩, m1.out, H3.out⟩
def DrawWithSlotOut (w : World) (e : Ending) (w' : World) : Prop := ∃ (A0 : Option Addr) (n0 c0 : Nat) (l0 : List Sl) (x1 : Int) (p2 r2 : Int), e = .returned (.tuple #[.slice A0 n0 c0, .int .i64 x1, .agg #[.int .i64 p2, .int .i64 r2]]) ∧ Drawn w' 4 A0 n0 l0 ∧ Int64 x1 ∧ Below w.heap.size w w'
theorem DrawWithSlot_c (A : Option Addr) (n c : Nat) (w : World) (hb : Bytes w w.heap.size A n) (hn : n ≤ 1048576) : Calls Try.prog 74 #[.slice A n c] w (DrawWithSlotOut w) := by
  go_enter Try.func74, Try.ntmps74
  have hz := (Below.refl w.heap.size w).alloc (Nat.le_refl _) (.cells #[.int .i64 0, .int .i64 0] 41)
  have hbz := hb.grow hz
  have BX := Lib.hid (Box.new w 0 0)
  have hbx := BX.out.lt
  generalize hw0 : w.alloc (.cells #[.int .i64 0, .int .i64 0] 41) = w0 at hz hbz BX hbx
  go_wp2_with fail
  clear hw0
  refine (l01New_c A n c _ hbz hn).mono ?_
  rintro e w1 ⟨g, rfl, hg, hc1, hb1⟩
  have hgw : w.heap.size ≤ g := Nat.le_trans hz.size hg
  have H1 := Lib.hid (hz.trans (hb1.mono hz.size))
  have X1 := Lib.hid (BX.out.below hb1)
  clear BX
  clear hb hbz hz hb1
  go_wp2_with fail
  refine (l03AnyTable_c _ g 4 8 _ hc1 hg (by omega) (by omega) (by omega)).mono ?_
  rintro e w2 ⟨A0, n0, c0, l0, rfl, hn0, R0, nn0, hc2, g2⟩
  have T0 := Lib.hid R0
  have N0 := Lib.hid hn0
  have ne0 := fun p h => (nn0 p h).1
  have hsz0 := X1.out.lt
  have nb0 : Hid (∀ p, A0 = some p → w.heap.size < p.block) := Lib.hid fun p h => Nat.lt_of_lt_of_le hsz0 (nn0 p h).2
  clear R0 hn0 nn0
  have H2 := Lib.hid (below_cur H1.out g2 hgw)
  clear H1
  have X2 := Lib.hid (X1.out.grown g2 (by omega))
  clear X1
  go_wp2_with fail
  refine (l03Page_c _ g _ hc2 hg).mono ?_
  rintro e w3 ⟨x1, rfl, hx, hc3, g3⟩
  have m1 := Lib.hid (mem64 hx (by decide))
  clear hx
  have H3 := Lib.hid (below_cur H2.out g3 hgw)
  clear H2
  have T0' := Lib.hid (T0.out.cur g3 ne0)
  clear T0
  have T0 := T0'
  clear T0'
  have X3 := Lib.hid (X2.out.grown g3 (by omega))
  clear X2
  go_wp2_with fail
  refine (l03Any_c _ g 8 _ hc3 hg (by omega)).mono ?_
  rintro e w4 ⟨p2, r2, rfl, hc4, g4⟩
  have H4 := Lib.hid (below_cur H3.out g4 hgw)
  clear H3
  have T0' := Lib.hid (T0.out.cur g4 ne0)
  clear T0
  have T0 := T0'
  clear T0'
  have X4 := Lib.hid (X3.out.grown g4 (by omega))
  clear X3
  have hs := H4.out.size
  have d0 := X4.out.c0
  have d1 := X4.out.c1
  have z0 := X4.out.z 0
  have z1 := X4.out.z 1
  clear X4
  go_wp2
  exact bodyPost_ret (v := .tuple #[.slice A0 n0 c0, .int .i64 x1, .agg #[.int .i64 p2, .int .i64 r2]]) (by simp [results, Try.results74, go_sem, d0, d1]) rfl ⟨_, _, _, l0, _, _, _, rfl, ⟨N0.out, (T0.out.box nb0.out).box nb0.out⟩, m1.out, (H4.out.setCell (Nat.le_refl _) _).setCell (Nat.le_refl _) _⟩
def DrawSlotOkOut (w : World) (e : Ending) (w' : World) : Prop := ∃ (p0 r0 : Int) (x1 : Int), e = .returned (.tuple #[.agg #[.int .i64 p0, .int .i64 r0], .int .i64 x1]) ∧ Int64 x1 ∧ Below w.heap.size w w'
theorem DrawSlotOk_c (A : Option Addr) (n c : Nat) (w : World) (hb : Bytes w w.heap.size A n) (hn : n ≤ 1048576) : Calls Try.prog 76 #[.slice A n c] w (DrawSlotOkOut w) := by
  go_enter Try.func76, Try.ntmps76
  have hz := (Below.refl w.heap.size w).alloc (Nat.le_refl _) (.cells #[.int .i64 0, .int .i64 0] 41)
  have hbz := hb.grow hz
  have BX := Lib.hid (Box.new w 0 0)
  have hbx := BX.out.lt
  generalize hw0 : w.alloc (.cells #[.int .i64 0, .int .i64 0] 41) = w0 at hz hbz BX hbx
  go_wp2_with fail
  clear hw0
  refine (l01New_c A n c _ hbz hn).mono ?_
  rintro e w1 ⟨g, rfl, hg, hc1, hb1⟩
  have hgw : w.heap.size ≤ g := Nat.le_trans hz.size hg
  have H1 := Lib.hid (hz.trans (hb1.mono hz.size))
  have X1 := Lib.hid (BX.out.below hb1)
  clear BX
  clear hb hbz hz hb1
  go_wp2_with fail
  refine (l03Any_c _ g 8 _ hc1 hg (by omega)).mono ?_
  rintro e w2 ⟨p0, r0, rfl, hc2, g2⟩
  have H2 := Lib.hid (below_cur H1.out g2 hgw)
  clear H1
  have X2 := Lib.hid (X1.out.grown g2 (by omega))
  clear X1
  have hlt2 := hc2.lt
  have hlit := World.ownsRow_lit (base := w2.heap.size) (e := 3) (size := 1) w2 #[.int .i64 8, .int .i64 8, .int .i64 4, .int .i64 0, .int .i64 (-1), .int .i64 9223372036854775807, .int .i64 (-9223372036854775808)] 7 (Nat.le_refl _) (by unfold maxLen; omega) (by simp)
  have hbl := (Below.refl w2.heap.size w2).alloc (Nat.le_refl _) (.cells #[.int .i64 8, .int .i64 8, .int .i64 4, .int .i64 0, .int .i64 (-1), .int .i64 9223372036854775807, .int .i64 (-9223372036854775808)] 3)
  have HC := Lib.hid (hc2.below hbl)
  have HR := Lib.hid (Rd.of_own hlit)
  have HH := Lib.hid (H2.out.trans (hbl.mono H2.out.size))
  have XX := Lib.hid (X2.out.below hbl)
  clear X2
  clear hlit hbl hc2 H2
  go_wp2_with fail
  refine (l01PickInt_c _ g (some ⟨w2.heap.size, 0, none⟩) 7 7 [8, 8, 4, 0, -1, 9223372036854775807, -9223372036854775808] _ HC.out HR.out (by omega) (by omega) (by intro b o e; injection e with e; injection e with e; omega)).mono ?_
  rintro e w3 ⟨x1, rfl, hx, hc3, g3⟩
  have m1 := Lib.hid (mem64 hx (by decide))
  have H3 := Lib.hid (below_cur HH.out g3 hgw)
  clear hx HC HR HH
  have X3 := Lib.hid (XX.out.grown g3 (by omega))
  clear XX
  have hs := H3.out.size
  have d0 := X3.out.c0
  have d1 := X3.out.c1
  have z0 := X3.out.z 0
  have z1 := X3.out.z 1
  clear X3
  go_wp2
  exact bodyPost_ret (v := .tuple #[.agg #[.int .i64 p0, .int .i64 r0], .int .i64 x1]) (by simp [results, Try.results76, go_sem, d0, d1]) rfl ⟨_, _, _, rfl, m1.out, (H3.out.setCell (Nat.le_refl _) _).setCell (Nat.le_refl _) _⟩
def DrawMappedOut (w : World) (e : Ending) (w' : World) : Prop := ∃ (A0 : Option Addr) (n0 c0 : Nat) (l0 : List Sl), e = .returned (.slice A0 n0 c0) ∧ Drawn w' 6 A0 n0 l0 ∧ Below w.heap.size w w'
theorem DrawMapped_c (A : Option Addr) (n c : Nat) (w : World) (hb : Bytes w w.heap.size A n) (hn : n ≤ 1048576) : Calls Try.prog 49 #[.slice A n c] w (DrawMappedOut w) := by
  go_enter Try.func49, Try.ntmps49
  have hz := Below.refl w.heap.size w
  have hbz := hb
  go_wp2_with fail
  refine (l01New_c A n c _ hbz hn).mono ?_
  rintro e w1 ⟨g, rfl, hg, hc1, hb1⟩
  have hgw : w.heap.size ≤ g := Nat.le_trans hz.size hg
  have H1 := Lib.hid (hz.trans (hb1.mono hz.size))
  clear hb hbz hz hb1
  go_wp2_with fail
  refine (l03AnyTable_c _ g 6 3 _ hc1 hg (by omega) (by omega) (by omega)).mono ?_
  rintro e w2 ⟨A0, n0, c0, l0, rfl, hn0, R0, nn0, hc2, g2⟩
  have T0 := Lib.hid R0
  have N0 := Lib.hid hn0
  have ne0 := fun p h => (nn0 p h).1
  clear R0 hn0 nn0
  have H2 := Lib.hid (below_cur H1.out g2 hgw)
  clear H1
  go_wp2
  go_ret
  exact ⟨_, _, _, l0, rfl, ⟨N0.out, T0.out⟩, H2.out⟩
def DrawUsesOfOut (w : World) (e : Ending) (w' : World) : Prop := ∃ (A0 : Option Addr) (n0 c0 : Nat) (l0 : List Sl) (x1 : Int), e = .returned (.tuple #[.slice A0 n0 c0, .int .i64 x1]) ∧ Drawn w' 6 A0 n0 l0 ∧ Int64 x1 ∧ Below w.heap.size w w'
theorem DrawUsesOf_c (A : Option Addr) (n c : Nat) (w : World) (hb : Bytes w w.heap.size A n) (hn : n ≤ 1048576) : Calls Try.prog 45 #[.slice A n c] w (DrawUsesOfOut w) := by
  go_enter Try.func45, Try.ntmps45
  have hz := Below.refl w.heap.size w
  have hbz := hb
  go_wp2_with fail
  refine (l01New_c A n c _ hbz hn).mono ?_
  rintro e w1 ⟨g, rfl, hg, hc1, hb1⟩
  have hgw : w.heap.size ≤ g := Nat.le_trans hz.size hg
  have H1 := Lib.hid (hz.trans (hb1.mono hz.size))
  clear hb hbz hz hb1
  go_wp2_with fail
  refine (l03AnyTable_c _ g 6 3 _ hc1 hg (by omega) (by omega) (by omega)).mono ?_
  rintro e w2 ⟨A0, n0, c0, l0, rfl, hn0, R0, nn0, hc2, g2⟩
  have T0 := Lib.hid R0
  have N0 := Lib.hid hn0
  have ne0 := fun p h => (nn0 p h).1
  clear R0 hn0 nn0
  have H2 := Lib.hid (below_cur H1.out g2 hgw)
  clear H1
  go_wp2_with fail
  refine (l01Below_c _ g 5 _ hc2 (by omega)).mono ?_
  rintro e w3 ⟨y1, rfl, lo1, hi1, hc3, g3⟩
  have H3 := Lib.hid (below_cur H2.out g3 hgw)
  clear H2
  have T0' := Lib.hid (T0.out.cur g3 ne0)
  clear T0
  have T0 := T0'
  clear T0'
  rw [if_pos (by omega)] at hi1
  go_wp2
  go_returns
  exact ⟨_, _, _, l0, _, rfl, ⟨N0.out, T0.out⟩, (by unfold Int64; omega), H3.out⟩
def DrawComposeSlotOut (w : World) (e : Ending) (w' : World) : Prop := ∃ (p0 r0 : Int) (A1 : Option Addr) (n1 c1 : Nat) (l1 : List Sl), e = .returned (.tuple #[.agg #[.int .i64 p0, .int .i64 r0], .slice A1 n1 c1]) ∧ Drawn w' 8 A1 n1 l1 ∧ Below w.heap.size w w'
theorem DrawComposeSlot_c (A : Option Addr) (n c : Nat) (w : World) (hb : Bytes w w.heap.size A n) (hn : n ≤ 1048576) : Calls Try.prog 89 #[.slice A n c] w (DrawComposeSlotOut w) := by
  go_enter Try.func89, Try.ntmps89
  have hz := (Below.refl w.heap.size w).alloc (Nat.le_refl _) (.cells #[.int .i64 0, .int .i64 0] 41)
  have hbz := hb.grow hz
  have BX := Lib.hid (Box.new w 0 0)
  have hbx := BX.out.lt
  generalize hw0 : w.alloc (.cells #[.int .i64 0, .int .i64 0] 41) = w0 at hz hbz BX hbx
  go_wp2_with fail
  clear hw0
  refine (l01New_c A n c _ hbz hn).mono ?_
  rintro e w1 ⟨g, rfl, hg, hc1, hb1⟩
  have hgw : w.heap.size ≤ g := Nat.le_trans hz.size hg
  have H1 := Lib.hid (hz.trans (hb1.mono hz.size))
  have X1 := Lib.hid (BX.out.below hb1)
  clear BX
  clear hb hbz hz hb1
  go_wp2_with fail
  refine (l03Any_c _ g 8 _ hc1 hg (by omega)).mono ?_
  rintro e w2 ⟨p0, r0, rfl, hc2, g2⟩
  have H2 := Lib.hid (below_cur H1.out g2 hgw)
  clear H1
  have X2 := Lib.hid (X1.out.grown g2 (by omega))
  clear X1
  go_wp2_with fail
  refine (l03AnyTable_c _ g 8 24 _ hc2 hg (by omega) (by omega) (by omega)).mono ?_
  rintro e w3 ⟨A1, n1, c1, l1, rfl, hn1, R1, nn1, hc3, g3⟩
  have T1 := Lib.hid R1
  have N1 := Lib.hid hn1
  have ne1 := fun p h => (nn1 p h).1
  have hsz1 := X2.out.lt
  have nb1 : Hid (∀ p, A1 = some p → w.heap.size < p.block) := Lib.hid fun p h => Nat.lt_of_lt_of_le hsz1 (nn1 p h).2
  clear R1 hn1 nn1
  have H3 := Lib.hid (below_cur H2.out g3 hgw)
  clear H2
  have X3 := Lib.hid (X2.out.grown g3 (by omega))
  clear X2
  have hs := H3.out.size
  have d0 := X3.out.c0
  have d1 := X3.out.c1
  have z0 := X3.out.z 0
  have z1 := X3.out.z 1
  clear X3
  go_wp2
  exact bodyPost_ret (v := .tuple #[.agg #[.int .i64 p0, .int .i64 r0], .slice A1 n1 c1]) (by simp [results, Try.results89, go_sem, d0, d1]) rfl ⟨_, _, _, _, _, l1, rfl, ⟨N1.out, (T1.out.box nb1.out).box nb1.out⟩, (H3.out.setCell (Nat.le_refl _) _).setCell (Nat.le_refl _) _⟩
def DrawComposeOut (w : World) (e : Ending) (w' : World) : Prop := ∃ (A0 : Option Addr) (n0 c0 : Nat) (l0 : List Sl) (A1 : Option Addr) (n1 c1 : Nat) (l1 : List Sl), e = .returned (.tuple #[.slice A0 n0 c0, .slice A1 n1 c1]) ∧ Drawn w' 4 A0 n0 l0 ∧ Drawn w' 8 A1 n1 l1 ∧ Below w.heap.size w w'
theorem DrawCompose_c (A : Option Addr) (n c : Nat) (w : World) (hb : Bytes w w.heap.size A n) (hn : n ≤ 1048576) : Calls Try.prog 53 #[.slice A n c] w (DrawComposeOut w) := by
  go_enter Try.func53, Try.ntmps53
  have hz := Below.refl w.heap.size w
  have hbz := hb
  go_wp2_with fail
  refine (l01New_c A n c _ hbz hn).mono ?_
  rintro e w1 ⟨g, rfl, hg, hc1, hb1⟩
  have hgw : w.heap.size ≤ g := Nat.le_trans hz.size hg
  have H1 := Lib.hid (hz.trans (hb1.mono hz.size))
  clear hb hbz hz hb1
  go_wp2_with fail
  refine (l03AnyTable_c _ g 4 8 _ hc1 hg (by omega) (by omega) (by omega)).mono ?_
  rintro e w2 ⟨A0, n0, c0, l0, rfl, hn0, R0, nn0, hc2, g2⟩
  have T0 := Lib.hid R0
  have N0 := Lib.hid hn0
  have ne0 := fun p h => (nn0 p h).1
  clear R0 hn0 nn0
  have H2 := Lib.hid (below_cur H1.out g2 hgw)
  clear H1
  go_wp2_with fail
  refine (l03AnyTable_c _ g 8 24 _ hc2 hg (by omega) (by omega) (by omega)).mono ?_
  rintro e w3 ⟨A1, n1, c1, l1, rfl, hn1, R1, nn1, hc3, g3⟩
  have T1 := Lib.hid R1
  have N1 := Lib.hid hn1
  have ne1 := fun p h => (nn1 p h).1
  clear R1 hn1 nn1
  have H3 := Lib.hid (below_cur H2.out g3 hgw)
  clear H2
  have T0' := Lib.hid (T0.out.cur g3 ne0)
  clear T0
  have T0 := T0'
  clear T0'
  go_wp2
  go_returns
  exact ⟨_, _, _, l0, _, _, _, l1, rfl, ⟨N0.out, T0.out⟩, ⟨N1.out, T1.out⟩, H3.out⟩
def DrawRestrictOut (w : World) (e : Ending) (w' : World) : Prop := ∃ (A0 : Option Addr) (n0 c0 : Nat) (l0 : List Sl) (x1 : Int), e = .returned (.tuple #[.slice A0 n0 c0, .int .i64 x1]) ∧ Drawn w' 4 A0 n0 l0 ∧ Int64 x1 ∧ Below w.heap.size w w'
theorem DrawRestrict_c (A : Option Addr) (n c : Nat) (w : World) (hb : Bytes w w.heap.size A n) (hn : n ≤ 1048576) : Calls Try.prog 54 #[.slice A n c] w (DrawRestrictOut w) := by
  go_enter Try.func54, Try.ntmps54
  have hz := Below.refl w.heap.size w
  have hbz := hb
  go_wp2_with fail
  refine (l01New_c A n c _ hbz hn).mono ?_
  rintro e w1 ⟨g, rfl, hg, hc1, hb1⟩
  have hgw : w.heap.size ≤ g := Nat.le_trans hz.size hg
  have H1 := Lib.hid (hz.trans (hb1.mono hz.size))
  clear hb hbz hz hb1
  go_wp2_with fail
  refine (l03AnyTable_c _ g 4 8 _ hc1 hg (by omega) (by omega) (by omega)).mono ?_
  rintro e w2 ⟨A0, n0, c0, l0, rfl, hn0, R0, nn0, hc2, g2⟩
  have T0 := Lib.hid R0
  have N0 := Lib.hid hn0
  have ne0 := fun p h => (nn0 p h).1
  clear R0 hn0 nn0
  have H2 := Lib.hid (below_cur H1.out g2 hgw)
  clear H1
  go_wp2_with fail
  refine (l02Rights_c _ g _ hc2).mono ?_
  rintro e w3 ⟨x1, rfl, hx, hc3, g3⟩
  have m1 := Lib.hid (mem64 hx (by decide))
  clear hx
  have H3 := Lib.hid (below_cur H2.out g3 hgw)
  clear H2
  have T0' := Lib.hid (T0.out.cur g3 ne0)
  clear T0
  have T0 := T0'
  clear T0'
  go_wp2
  go_returns
  exact ⟨_, _, _, l0, _, rfl, ⟨N0.out, T0.out⟩, m1.out, H3.out⟩
def DrawWalkInnerOut (w : World) (e : Ending) (w' : World) : Prop := ∃ (A0 : Option Addr) (n0 c0 : Nat) (l0 : List Sl) (x1 : Int) (x2 : Int), e = .returned (.tuple #[.slice A0 n0 c0, .int .i64 x1, .int .i64 x2]) ∧ Drawn w' 4 A0 n0 l0 ∧ Int64 x1 ∧ Int64 x2 ∧ Below w.heap.size w w'
theorem DrawWalkInner_c (A : Option Addr) (n c : Nat) (w : World) (hb : Bytes w w.heap.size A n) (hn : n ≤ 1048576) : Calls Try.prog 61 #[.slice A n c] w (DrawWalkInnerOut w) := by
  go_enter Try.func61, Try.ntmps61
  have hz := Below.refl w.heap.size w
  have hbz := hb
  go_wp2_with fail
  refine (l01New_c A n c _ hbz hn).mono ?_
  rintro e w1 ⟨g, rfl, hg, hc1, hb1⟩
  have hgw : w.heap.size ≤ g := Nat.le_trans hz.size hg
  have H1 := Lib.hid (hz.trans (hb1.mono hz.size))
  clear hb hbz hz hb1
  go_wp2_with fail
  refine (l03AnyTable_c _ g 4 8 _ hc1 hg (by omega) (by omega) (by omega)).mono ?_
  rintro e w2 ⟨A0, n0, c0, l0, rfl, hn0, R0, nn0, hc2, g2⟩
  have T0 := Lib.hid R0
  have N0 := Lib.hid hn0
  have ne0 := fun p h => (nn0 p h).1
  clear R0 hn0 nn0
  have H2 := Lib.hid (below_cur H1.out g2 hgw)
  clear H1
  go_wp2_with fail
  refine (l03Page_c _ g _ hc2 hg).mono ?_
  rintro e w3 ⟨x1, rfl, hx, hc3, g3⟩
  have m1 := Lib.hid (mem64 hx (by decide))
  clear hx
  have H3 := Lib.hid (below_cur H2.out g3 hgw)
  clear H2
  have T0' := Lib.hid (T0.out.cur g3 ne0)
  clear T0
  have T0 := T0'
  clear T0'
  go_wp2_with fail
  refine (l06Need_c _ g _ hc3 hg).mono ?_
  rintro e w4 ⟨x2, rfl, hx, hc4, g4⟩
  have m2 := Lib.hid (mem64 hx (by decide))
  clear hx
  have H4 := Lib.hid (below_cur H3.out g4 hgw)
  clear H3
  have T0' := Lib.hid (T0.out.cur g4 ne0)
  clear T0
  have T0 := T0'
  clear T0'
  go_wp2
  go_returns
  exact ⟨_, _, _, l0, _, _, rfl, ⟨N0.out, T0.out⟩, m1.out, m2.out, H4.out⟩
def DrawWalkOut (w : World) (e : Ending) (w' : World) : Prop := ∃ (A0 : Option Addr) (n0 c0 : Nat) (l0 : List Sl) (A1 : Option Addr) (n1 c1 : Nat) (l1 : List Sl) (x2 : Int) (x3 : Int), e = .returned (.tuple #[.slice A0 n0 c0, .slice A1 n1 c1, .int .i64 x2, .int .i64 x3]) ∧ Drawn w' 4 A0 n0 l0 ∧ Drawn w' 8 A1 n1 l1 ∧ Int64 x2 ∧ Int64 x3 ∧ Below w.heap.size w w'
theorem DrawWalk_c (A : Option Addr) (n c : Nat) (w : World) (hb : Bytes w w.heap.size A n) (hn : n ≤ 1048576) : Calls Try.prog 58 #[.slice A n c] w (DrawWalkOut w) := by
  go_enter Try.func58, Try.ntmps58
  have hz := Below.refl w.heap.size w
  have hbz := hb
  go_wp2_with fail
  refine (l01New_c A n c _ hbz hn).mono ?_
  rintro e w1 ⟨g, rfl, hg, hc1, hb1⟩
  have hgw : w.heap.size ≤ g := Nat.le_trans hz.size hg
  have H1 := Lib.hid (hz.trans (hb1.mono hz.size))
  clear hb hbz hz hb1
  go_wp2_with fail
  refine (l03AnyTable_c _ g 4 8 _ hc1 hg (by omega) (by omega) (by omega)).mono ?_
  rintro e w2 ⟨A0, n0, c0, l0, rfl, hn0, R0, nn0, hc2, g2⟩
  have T0 := Lib.hid R0
  have N0 := Lib.hid hn0
  have ne0 := fun p h => (nn0 p h).1
  clear R0 hn0 nn0
  have H2 := Lib.hid (below_cur H1.out g2 hgw)
  clear H1
  go_wp2_with fail
  refine (l03AnyTable_c _ g 8 24 _ hc2 hg (by omega) (by omega) (by omega)).mono ?_
  rintro e w3 ⟨A1, n1, c1, l1, rfl, hn1, R1, nn1, hc3, g3⟩
  have T1 := Lib.hid R1
  have N1 := Lib.hid hn1
  have ne1 := fun p h => (nn1 p h).1
  clear R1 hn1 nn1
  have H3 := Lib.hid (below_cur H2.out g3 hgw)
  clear H2
  have T0' := Lib.hid (T0.out.cur g3 ne0)
  clear T0
  have T0 := T0'
  clear T0'
  go_wp2_with fail
  refine (l03Page_c _ g _ hc3 hg).mono ?_
  rintro e w4 ⟨x2, rfl, hx, hc4, g4⟩
  have m2 := Lib.hid (mem64 hx (by decide))
  clear hx
  have H4 := Lib.hid (below_cur H3.out g4 hgw)
  clear H3
  have T0' := Lib.hid (T0.out.cur g4 ne0)
  clear T0
  have T0 := T0'
  clear T0'
  have T1' := Lib.hid (T1.out.cur g4 ne1)
  clear T1
  have T1 := T1'
  clear T1'
  go_wp2_with fail
  refine (l06Need_c _ g _ hc4 hg).mono ?_
  rintro e w5 ⟨x3, rfl, hx, hc5, g5⟩
  have m3 := Lib.hid (mem64 hx (by decide))
  clear hx
  have H5 := Lib.hid (below_cur H4.out g5 hgw)
  clear H4
  have T0' := Lib.hid (T0.out.cur g5 ne0)
  clear T0
  have T0 := T0'
  clear T0'
  have T1' := Lib.hid (T1.out.cur g5 ne1)
  clear T1
  have T1 := T1'
  clear T1'
  go_wp2
  go_returns
  exact ⟨_, _, _, l0, _, _, _, l1, _, _, rfl, ⟨N0.out, T0.out⟩, ⟨N1.out, T1.out⟩, m2.out, m3.out, H5.out⟩
def DrawFaultsOut (w : World) (e : Ending) (w' : World) : Prop := ∃ (A0 : Option Addr) (n0 c0 : Nat) (l0 : List Sl) (A1 : Option Addr) (n1 c1 : Nat) (l1 : List Sl) (x2 : Int), e = .returned (.tuple #[.slice A0 n0 c0, .slice A1 n1 c1, .int .i64 x2]) ∧ Drawn w' 4 A0 n0 l0 ∧ Drawn w' 8 A1 n1 l1 ∧ Int64 x2 ∧ Below w.heap.size w w'
theorem DrawFaults_c (A : Option Addr) (n c : Nat) (w : World) (hb : Bytes w w.heap.size A n) (hn : n ≤ 1048576) : Calls Try.prog 64 #[.slice A n c] w (DrawFaultsOut w) := by
  go_enter Try.func64, Try.ntmps64
  have hz := Below.refl w.heap.size w
  have hbz := hb
  go_wp2_with fail
  refine (l01New_c A n c _ hbz hn).mono ?_
  rintro e w1 ⟨g, rfl, hg, hc1, hb1⟩
  have hgw : w.heap.size ≤ g := Nat.le_trans hz.size hg
  have H1 := Lib.hid (hz.trans (hb1.mono hz.size))
  clear hb hbz hz hb1
  go_wp2_with fail
  refine (l03AnyTable_c _ g 4 8 _ hc1 hg (by omega) (by omega) (by omega)).mono ?_
  rintro e w2 ⟨A0, n0, c0, l0, rfl, hn0, R0, nn0, hc2, g2⟩
  have T0 := Lib.hid R0
  have N0 := Lib.hid hn0
  have ne0 := fun p h => (nn0 p h).1
  clear R0 hn0 nn0
  have H2 := Lib.hid (below_cur H1.out g2 hgw)
  clear H1
  go_wp2_with fail
  refine (l03AnyTable_c _ g 8 24 _ hc2 hg (by omega) (by omega) (by omega)).mono ?_
  rintro e w3 ⟨A1, n1, c1, l1, rfl, hn1, R1, nn1, hc3, g3⟩
  have T1 := Lib.hid R1
  have N1 := Lib.hid hn1
  have ne1 := fun p h => (nn1 p h).1
  clear R1 hn1 nn1
  have H3 := Lib.hid (below_cur H2.out g3 hgw)
  clear H2
  have T0' := Lib.hid (T0.out.cur g3 ne0)
  clear T0
  have T0 := T0'
  clear T0'
  go_wp2_with fail
  refine (l06Need_c _ g _ hc3 hg).mono ?_
  rintro e w4 ⟨x2, rfl, hx, hc4, g4⟩
  have m2 := Lib.hid (mem64 hx (by decide))
  clear hx
  have H4 := Lib.hid (below_cur H3.out g4 hgw)
  clear H3
  have T0' := Lib.hid (T0.out.cur g4 ne0)
  clear T0
  have T0 := T0'
  clear T0'
  have T1' := Lib.hid (T1.out.cur g4 ne1)
  clear T1
  have T1 := T1'
  clear T1'
  go_wp2
  go_returns
  exact ⟨_, _, _, l0, _, _, _, l1, _, rfl, ⟨N0.out, T0.out⟩, ⟨N1.out, T1.out⟩, m2.out, H4.out⟩
def DrawAddrPageOut (w : World) (e : Ending) (w' : World) : Prop := ∃ (x0 : Int), e = .returned (.int .i64 x0) ∧ Int64 x0 ∧ Below w.heap.size w w'
theorem DrawAddrPage_c (A : Option Addr) (n c : Nat) (w : World) (hb : Bytes w w.heap.size A n) (hn : n ≤ 1048576) : Calls Try.prog 68 #[.slice A n c] w (DrawAddrPageOut w) := by
  go_enter Try.func68, Try.ntmps68
  have hz := Below.refl w.heap.size w
  have hbz := hb
  go_wp2_with fail
  refine (l01New_c A n c _ hbz hn).mono ?_
  rintro e w1 ⟨g, rfl, hg, hc1, hb1⟩
  have hgw : w.heap.size ≤ g := Nat.le_trans hz.size hg
  have H1 := Lib.hid (hz.trans (hb1.mono hz.size))
  clear hb hbz hz hb1
  go_wp2_with fail
  refine (l06Addr_c _ g _ hc1 hg).mono ?_
  rintro e w2 ⟨x0, rfl, hx, hc2, g2⟩
  have m0 := Lib.hid (mem64 hx (by decide))
  clear hx
  have H2 := Lib.hid (below_cur H1.out g2 hgw)
  clear H1
  go_wp2
  go_ret
  exact ⟨_, rfl, m0.out, H2.out⟩
def DrawAddrCellOut (w : World) (e : Ending) (w' : World) : Prop := ∃ (x0 : Int), e = .returned (.int .i64 x0) ∧ Int64 x0 ∧ Below w.heap.size w w'
theorem DrawAddrCell_c (A : Option Addr) (n c : Nat) (w : World) (hb : Bytes w w.heap.size A n) (hn : n ≤ 1048576) : Calls Try.prog 69 #[.slice A n c] w (DrawAddrCellOut w) := by
  go_enter Try.func69, Try.ntmps69
  have hz := Below.refl w.heap.size w
  have hbz := hb
  go_wp2_with fail
  refine (l01New_c A n c _ hbz hn).mono ?_
  rintro e w1 ⟨g, rfl, hg, hc1, hb1⟩
  have hgw : w.heap.size ≤ g := Nat.le_trans hz.size hg
  have H1 := Lib.hid (hz.trans (hb1.mono hz.size))
  clear hb hbz hz hb1
  go_wp2_with fail
  refine (l06Addr_c _ g _ hc1 hg).mono ?_
  rintro e w2 ⟨x0, rfl, hx, hc2, g2⟩
  have m0 := Lib.hid (mem64 hx (by decide))
  clear hx
  have H2 := Lib.hid (below_cur H1.out g2 hgw)
  clear H1
  go_wp2
  go_ret
  exact ⟨_, rfl, m0.out, H2.out⟩
end Go.Proofs.Ytlfnhfipnjgifaa
