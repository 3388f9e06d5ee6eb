/- Drawn arguments of the laws over tables, the draws that part: DrawSameTable, DrawTableBelow, DrawBelow. Condition: the code holds at most 1048576 bytes. -/
import Derived.Test.YtlfnhfipnjgifaaDrawT
import Derived.Test.YtlfnhfipnjgifaaRestrict
import Derived.Deep.RegionWith
namespace Go.Proofs.Ytlfnhfipnjgifaa
open Go.RowKit
set_option linter.unusedVariables false
set_option maxHeartbeats 1000000
set_option maxRecDepth 20000

def TwoTables (w : World) (e : Ending) (w' : World) : Prop := ∃ (A0 : Option Addr) (n0 c0 : Nat) (l0 : List Sl) (A1 : Option Addr) (n1 c1 : Nat) (l1 : List Sl), e = .returned (.tuple #[.slice A0 n0 c0, .slice A1 n1 c1]) ∧ Drawn w' 4 A0 n0 l0 ∧ Drawn w' 4 A1 n1 l1 ∧ Below w.heap.size w w'
theorem DrawSameTable_c (A : Option Addr) (n c : Nat) (w : World) (hb : Bytes w w.heap.size A n) (hn : n ≤ 1048576) : Calls Try.prog 50 #[.slice A n c] w (TwoTables w) := by
  obtain ⟨i0, hi, hz0, hz1, hz2⟩ := info_parts info_Slot
  go_enter Try.func50, Try.ntmps50
  go_wp2_with fail
  refine (l01New_c A n c _ hb hn).mono ?_
  rintro e w1 ⟨g, rfl, hg, hc1, hb1⟩
  have H1 := Lib.hid hb1
  clear hb hb1
  go_wp2_with fail
  refine (l03AnyTable_c _ g 4 3 _ hc1 hg (by omega) (by omega) (by omega)).mono ?_
  rintro e w2 ⟨A0, n0, c0, l0, rfl, hn0, R0, nn0, hc2, g2⟩
  have T0 := Lib.hid R0
  have ne0 := fun p h => (nn0 p h).1
  have H2 := Lib.hid (below_cur H1.out g2 hg)
  clear R0 nn0 H1
  go_wp2_with fail
  refine (l01Once_c _ g 2 _ hc2 (by omega)).mono ?_
  rintro e w3 ⟨x, rfl, hc3, g3⟩
  have T1 := Lib.hid (T0.out.cur g3 ne0)
  have H3 := Lib.hid (below_cur H2.out g3 hg)
  clear T0 H2
  cases x
  · go_wp2_with fail
    refine (l03AnyTable_c _ g 4 3 _ hc3 hg (by omega) (by omega) (by omega)).mono ?_
    rintro e w4 ⟨A1, n1, c1, l1, rfl, hn1, R1, nn1, hc4, g4⟩
    have T2 := Lib.hid (T1.out.cur g4 ne0)
    have H4 := Lib.hid (below_cur H3.out g4 hg)
    have R2 := Lib.hid R1
    clear R1
    go_wp2
    go_returns
    exact ⟨_, _, _, l0, _, _, _, l1, rfl, ⟨hn0, T2.out⟩, ⟨hn1, R2.out⟩, H4.out⟩
  · have hown0 := World.ownsRow_lit (base := w3.heap.size) (e := 41) (size := 2) w3 #[] 0 (Nat.le_refl _) (by simp) (by simp)
    have hbel0 : Below w3.heap.size w3 (w3.alloc (.cells #[] 41)) := (Below.refl _ _).alloc (Nat.le_refl _) _
    go_wp2_with (at_builtin; refine wpList_append_rd _ rfl _ _ 22 rfl w3.heap.size 41 i0 (.agg #[.int .i64 0, .int .i64 0]) 2 16 Try.underlying22 hi hz0 hz1 hz2 rfl (by decide) (.slice (some ⟨w3.heap.size, 0, none⟩) 0 0) 0 [] rfl hown0 A0 n0 c0 (slotCells l0) rfl (T1.out.below hbel0) (slotCells_one l0) (by unfold maxLen; omega) (by omega) (by simp) ?_; intro v4 w4 hown4 hgr4; refine Hid.out ?_)
    refine Lib.hid ?_
    have hbel4 := below_grown hbel0 hown0 (Nat.le_refl _) hgr4
    simp only [Nat.zero_add, List.nil_append] at hown4
    obtain ⟨G, cc, rfl⟩ := own_shape hown4
    have T2 := Lib.hid (T1.out.below hbel4)
    have R2 := Lib.hid (Rd.of_own hown4)
    have H4 := Lib.hid (H3.out.trans (hbel4.mono H3.out.size))
    clear hown4 hgr4 hbel4 hown0 hbel0
    go_wp2
    go_returns
    exact ⟨_, _, _, l0, _, _, _, l0, rfl, ⟨hn0, T2.out⟩, ⟨hn0, R2.out⟩, H4.out⟩
theorem DrawTableBelow_c (A : Option Addr) (n c : Nat) (w : World) (hb : Bytes w w.heap.size A n) (hn : n ≤ 1048576) : Calls Try.prog 88 #[.slice A n c] w (TwoTables w) := by
  go_enter Try.func88, Try.ntmps88
  go_wp2_with fail
  refine (l01New_c A n c _ hb hn).mono ?_
  rintro e w1 ⟨g, rfl, hg, hc1, hb1⟩
  have H1 := Lib.hid hb1
  clear hb hb1
  go_wp2_with fail
  refine (l03AnyTable_c _ g 4 8 _ hc1 hg (by omega) (by omega) (by omega)).mono ?_
  rintro e w2 ⟨A0, n0, c0, l0, rfl, hn0, R0, nn0, hc2, g2⟩
  have T0 := Lib.hid R0
  have ne0 := fun p h => (nn0 p h).1
  have H2 := Lib.hid (below_cur H1.out g2 hg)
  clear R0 nn0 H1
  go_wp2_with fail
  refine (l01Once_c _ g 2 _ hc2 (by omega)).mono ?_
  rintro e w3 ⟨x, rfl, hc3, g3⟩
  have T1 := Lib.hid (T0.out.cur g3 ne0)
  have H3 := Lib.hid (below_cur H2.out g3 hg)
  clear T0 H2
  cases x
  · go_wp2_with fail
    refine (l03AnyTable_c _ g 4 8 _ hc3 hg (by omega) (by omega) (by omega)).mono ?_
    rintro e w4 ⟨A1, n1, c1, l1, rfl, hn1, R1, nn1, hc4, g4⟩
    have T2 := Lib.hid (T1.out.cur g4 ne0)
    have H4 := Lib.hid (below_cur H3.out g4 hg)
    have R2 := Lib.hid R1
    clear R1
    go_wp2
    go_returns
    exact ⟨_, _, _, l1, _, _, _, l0, rfl, ⟨hn1, R2.out⟩, ⟨hn0, T2.out⟩, H4.out⟩
  · go_wp2_with fail
    refine (l02Rights_c _ g _ hc3).mono ?_
    rintro e w4 ⟨q, rfl, hq, hc4, g4⟩
    clear hq
    have T2 := Lib.hid (T1.out.cur g4 ne0)
    have H4 := Lib.hid (below_cur H3.out g4 hg)
    clear T1 H3
    go_wp2_with fail
    refine (sRestrict_c A0 n0 c0 l0 q _ T2.out (by omega)).mono ?_
    rintro e w5 ⟨A1, c1, rfl, own5, hb5⟩
    have T3 := Lib.hid (T2.out.below hb5)
    have R3 := Lib.hid (Rd.of_own own5)
    have H5 := Lib.hid (H4.out.trans (hb5.mono H4.out.size))
    clear own5 hb5 T2 H4
    go_wp2
    go_returns
    exact ⟨_, _, _, _, _, _, _, l0, rfl, ⟨hn0, R3.out⟩, ⟨hn0, T3.out⟩, H5.out⟩
def TwoSlots (w : World) (e : Ending) (w' : World) : Prop := ∃ (p0 r0 p1 r1 : Int), e = .returned (.tuple #[.agg #[.int .i64 p0, .int .i64 r0], .agg #[.int .i64 p1, .int .i64 r1]]) ∧ Below w.heap.size w w'
theorem DrawBelow_c (A : Option Addr) (n c : Nat) (w : World) (hb : Bytes w w.heap.size A n) (hn : n ≤ 1048576) : Calls Try.prog 87 #[.slice A n c] w (TwoSlots w) := by
  go_enter Try.func87, Try.ntmps87
  have ha := (Below.refl w.heap.size w).alloc (Nat.le_refl _) (.cells #[.int .i64 0, .int .i64 0] 41)
  have ha2 := (Below.refl (w.alloc (.cells #[.int .i64 0, .int .i64 0] 41)).heap.size _).alloc (Nat.le_refl _) (.cells #[.int .i64 0, .int .i64 0] 41)
  have hz := ha.trans (ha2.mono ha.size)
  have hbz := (hb.grow ha).grow ha2
  have BX := Lib.hid ((Box.new w 0 0).below ha2)
  have BY := Lib.hid (Box.new (w.alloc (.cells #[.int .i64 0, .int .i64 0] 41)) 0 0)
  have hsz : ((w.alloc (.cells #[.int .i64 0, .int .i64 0] 41)).alloc (.cells #[.int .i64 0, .int .i64 0] 41)).heap.size = w.heap.size + 2 := by simp
  simp only [World.size_alloc] at BY
  go_wp2_with fail
  generalize (w.alloc (.cells #[.int .i64 0, .int .i64 0] 41)).alloc (.cells #[.int .i64 0, .int .i64 0] 41) = w0 at hz hbz BX BY hsz ⊢
  clear ha ha2 hb
  refine (l01New_c A n c _ hbz hn).mono ?_
  rintro e w1 ⟨g, rfl, hg, hc1, hb1⟩
  have hgw : w.heap.size + 2 ≤ g := by omega
  have H1 := Lib.hid (hz.trans (hb1.mono hz.size))
  have X1 := Lib.hid (BX.out.below hb1)
  have Y1 := Lib.hid (BY.out.below hb1)
  have hsz1 := hb1.size
  clear hbz hb1 BX BY hz
  go_wp2_with fail
  refine (l03Any_c _ g 3 _ hc1 hg (by omega)).mono ?_
  rintro e w2 ⟨p, r, rfl, hc2, g2⟩
  have hl2 := hc2.lt
  have X2 := X1.out.grown g2 (by omega)
  have Y2 := Y1.out.grown g2 (by omega)
  have H2 := below_cur H1.out g2 (by omega)
  have hq := (Below.refl w2.heap.size w2).alloc (Nat.le_refl _) (.cells #[.int .i64 p, .int .i64 r] 41)
  have X3 := Lib.hid (X2.below hq)
  have Y3 := Lib.hid (Y2.below hq)
  have Z3 := Lib.hid (Box.new w2 p r)
  have H3 := Lib.hid (H2.trans (hq.mono H2.size))
  have C3 := Lib.hid (hc2.below hq)
  have hs2 := g2.size
  clear X1 Y1 X2 Y2 H1 H2 hc1 hc2 g2 hq
  go_wp2_with fail
  refine (l01Once_c _ g 2 _ C3.out (by omega)).mono ?_
  rintro e w3 ⟨x, rfl, hc3, g3⟩
  have hne : w2.heap.size ≠ g := by omega
  have X4 := Lib.hid (X3.out.grown g3 (by omega))
  have Y4 := Lib.hid (Y3.out.grown g3 (by omega))
  have Z4 := Lib.hid (Z3.out.grown g3 hne)
  have H4 := Lib.hid (below_cur H3.out g3 (by omega))
  have u0 := Z4.out.c0
  have u1 := Z4.out.c1
  clear X3 Y3 Z3 H3 C3
  have CD : Cur w3.drew w0.heap.size g := hc3
  have XD : Hid (Box w3.drew w.heap.size 0 0) := Lib.hid X4.out
  have YD : Hid (Box w3.drew (w.heap.size + 1) 0 0) := Lib.hid Y4.out
  have ZD : Hid (Box w3.drew w2.heap.size p r) := Lib.hid Z4.out
  have HD : Hid (Below w.heap.size w w3.drew) := Lib.hid H4.out.drew
  have v0 := ZD.out.c0
  have v1 := ZD.out.c1
  clear X4 Y4 Z4 H4
  cases x
  · go_wp2_with fail
    go_region_with (go_at_call 121; refine (l03Any_c _ g 3 _ CD hg (by omega)).mono ?_; rintro e w4 ⟨p', r', rfl, hc4, g4⟩; have X5 := Lib.hid (XD.out.grown g4 (by omega)); have Y5 := Lib.hid (YD.out.grown g4 (by omega)); have Z5 := ZD.out.grown g4 hne; have H5 := Lib.hid (below_cur HD.out g4 (by omega)); have d0 := X5.out.c0; have d1 := X5.out.c1; have z0 := X5.out.z 0; have z1 := X5.out.z 1; have e0 := Y5.out.c0; have e1 := Y5.out.c1; have y0 := Y5.out.z 0; have y1 := Y5.out.z 1; have t0 := Z5.c0; have t1 := Z5.c1)
    all_goals
      go_wp2
      exact bodyPost_ret (v := .tuple #[.agg #[.int .i64 p, .int .i64 r], .agg #[.int .i64 p', .int .i64 r']]) (by simp [results, Try.results87, go_sem, d0, d1, e0, e1]) rfl ⟨p, r, _, _, rfl, (((H5.out.setCell (p := ⟨w.heap.size, 0, none⟩) (Nat.le_refl _) _).setCell (p := ⟨w.heap.size, 1, none⟩) (Nat.le_refl _) _).setCell (p := ⟨w.heap.size + 1, 0, none⟩) (Nat.le_succ _) _).setCell (p := ⟨w.heap.size + 1, 1, none⟩) (Nat.le_succ _) _⟩
  · go_wp2_with fail
    go_region_with (go_at_call 112; refine (l02Rights_c _ g _ CD).mono ?_; rintro e w4 ⟨q, rfl, hq, hc4, g4⟩; have X5 := Lib.hid (XD.out.grown g4 (by omega)); have Y5 := Lib.hid (YD.out.grown g4 (by omega)); have Z5 := ZD.out.grown g4 hne; have H5 := Lib.hid (below_cur HD.out g4 (by omega)); have d0 := X5.out.c0; have d1 := X5.out.c1; have z0 := X5.out.z 0; have z1 := X5.out.z 1; have e0 := Y5.out.c0; have e1 := Y5.out.c1; have y0 := Y5.out.z 0; have y1 := Y5.out.z 1; have t0 := Z5.c0; have t1 := Z5.c1)
    all_goals
      go_wp2
      exact bodyPost_ret (v := .tuple #[.agg #[.int .i64 p, .int .i64 r], .agg #[.int .i64 p, .int .i64 q]]) (by simp [results, Try.results87, go_sem, d0, d1, e0, e1]) rfl ⟨p, r, _, _, rfl, (((H5.out.setCell (p := ⟨w.heap.size, 0, none⟩) (Nat.le_refl _) _).setCell (p := ⟨w.heap.size, 1, none⟩) (Nat.le_refl _) _).setCell (p := ⟨w.heap.size + 1, 0, none⟩) (Nat.le_succ _) _).setCell (p := ⟨w.heap.size + 1, 1, none⟩) (Nat.le_succ _) _⟩
end Go.Proofs.Ytlfnhfipnjgifaa
