/- Contracts of memory functions: WithPage, SameMem. Bounds: at most 1048576 rows of at most 1048576 numbers. -/
import Derived.Test.YtjgphiialfhdlaaMemF3
namespace Go.Proofs.Ytjgphiialfhdlaa
open Go.RowKit
set_option linter.unusedVariables false
set_option maxHeartbeats 1000000

theorem sWithPage_c (p : Int) (A B : Option Addr) (n m c d : Nat) (L : List (List Int)) (cs : List Int) (w : World) (ha : Mx w A n L) (hb : Rd w 1 B m (intCells cs)) (hn : n ≤ 1048576) (hm : m ≤ 1048576) (hr : Rows L) :
    Calls Try.prog 36 #[.slice A n c, .int .i64 p, .slice B m d] w (MadeMx w n (withPage L p cs)) := by
  have hl := ha.1
  have hcl := ints_len hb
  have HR : Hid (Rows L) := hr
  cases h0 : hasB p n
  · have HC : Hid (withPage L p cs = L) := by show withPage L p cs = L; rw [withPage, hl, h0]; rfl
    rw [HC.out]
    have H0 := Lib.hid h0
    clear h0 hl hr hcl
    go_enter Try.func36, Try.ntmps36
    go_wp2_with fail
    refine (l04Copy_c _ n c L _ ha hn HR.out).mono ?_
    rintro e w1 ⟨A1, c1, vs, rfl, O1, hb1⟩
    go_wp2_with fail
    refine (l01In_v (v := false) (by rw [inB_has]; exact H0.out) _).mono ?_
    rintro e w' ⟨rfl, rfl⟩
    go_wp2
    go_ret
    exact ⟨A1, c1, vs, rfl, O1, hb1⟩
  · cases h2 : pageOk cs
    · have HC : Hid (withPage L p cs = L) := by show withPage L p cs = L; rw [withPage, hl, h0, h2]; rfl
      rw [HC.out]
      have H0 := Lib.hid h0
      have H2 := Lib.hid h2
      clear h0 h2 hl hr hcl
      go_enter Try.func36, Try.ntmps36
      go_wp2_with fail
      refine (l04Copy_c _ n c L _ ha hn HR.out).mono ?_
      rintro e w1 ⟨A1, c1, vs, rfl, O1, hb1⟩
      go_wp2_with fail
      refine (l01In_v (v := true) (by rw [inB_has]; exact H0.out) _).mono ?_
      rintro e w' ⟨rfl, rfl⟩
      go_wp2_with fail
      refine (sPageOk_v H2.out B m d _ (hb.below hb1) hm).mono ?_
      rintro e w' ⟨rfl, rfl⟩
      go_wp2
      go_ret
      exact ⟨A1, c1, vs, rfl, O1, hb1⟩
    · obtain ⟨h1, h3⟩ : 0 ≤ p ∧ p < n := by simpa [hasB] using h0
      obtain ⟨k, rfl⟩ := Int.eq_ofNat_of_zero_le h1
      have hlt : k < n := by omega
      have HC : Hid (withPage L (k : Int) cs = L.set k cs) := by show withPage L (k : Int) cs = L.set k cs; rw [withPage, hl, h0, h2]; rfl
      rw [HC.out]
      have H0 := Lib.hid h0
      have H2 := Lib.hid h2
      have HM := Lib.hid hcl
      clear h0 h1 h2 h3 hl hr hcl
      go_enter Try.func36, Try.ntmps36
      go_wp2_with fail
      refine (l04Copy_c _ n c L _ ha hn HR.out).mono ?_
      rintro e w1 ⟨A1, c1, vs, rfl, O1, hb1⟩
      go_wp2_with fail
      obtain ⟨g, rfl⟩ := own_at O1.row (by omega)
      refine (l01In_v (v := true) (by rw [inB_has]; exact H0.out) _).mono ?_
      rintro e w' ⟨rfl, rfl⟩
      go_wp2_with fail
      refine (sPageOk_v H2.out B m d _ (hb.below hb1) hm).mono ?_
      rintro e w' ⟨rfl, rfl⟩
      obtain ⟨i0, hi, hz0, hz1, hz2⟩ := info_parts info_int'
      have hlit := World.ownsRow_lit (base := w1.heap.size) (e := 3) (size := 1) w1 #[] 0 (Nat.le_refl _) (by simp) (by simp)
      have hbl : Below w1.heap.size w1 (w1.alloc (.cells #[] 3)) := (Below.refl _ _).alloc (Nat.le_refl _) _
      go_wp2_with (at_builtin; refine wpList_append_rd _ rfl _ _ 22 rfl w1.heap.size 3 i0 (.int .i64 0) 1 8 Try.underlying22 hi hz0 hz1 hz2 rfl (by decide) (.slice (some ⟨w1.heap.size, 0, none⟩) 0 0) 0 [] rfl hlit B m d (intCells cs) rfl ((hb.below hb1).below hbl) (intCells_one cs) (by unfold maxLen; omega) (by omega) (by simp) ?_; intro v2 w2 O2 hg2; have hbw := below_grown hbl hlit (Nat.le_refl _) hg2; simp only [Nat.zero_add, List.nil_append] at O2; clear hg2; have hmx := O1.kept hbw; have hfr := O1.fresh O2 (Nat.le_refl _); replace O2 := own_base O2 hb1.size; have hbel2 : Below w.heap.size w w2 := hb1.trans (hbw.mono hb1.size); obtain ⟨A2, c2, rfl⟩ := own_shape O2; have hput := hmx.put k hlt (.slice A2 m c2) cs A2 c2 (by rw [HM.out]) (by rw [HM.out]; exact O2) hfr; have hg := (hmx.row.lt g rfl).1; have hbel3 := hbel2.grown hput.2 hbel2.size (fun k hk => by cases hk; exact hg); have d0 : ∃ u, w2.cell? ⟨g, k, none⟩ = some u := ⟨_, (hmx.row.cellAt k (by omega)).trans (List.getElem?_eq_getElem (by have := hmx.vlen; omega))⟩; obtain ⟨u, d0⟩ := d0; have z0 : w2.frozen? ⟨g, k, none⟩ = false := hmx.row.frozenAt _; have HS := Lib.hid hput.1; clear hput hmx O2 hfr hbel2 hbw)
      go_ret
      exact ⟨_, _, _, rfl, HS.out, hbel3⟩
theorem iWithPage_c (p : Int) (A B : Option Addr) (n m c d : Nat) (L : List (List Int)) (cs : List Int) (w : World) (ha : Mx w A n L) (hb : Rd w 1 B m (intCells cs)) (hn : n ≤ 1048576) (hm : m ≤ 1048576) (hr : Rows L) :
    Calls Try.prog 37 #[.slice A n c, .int .i64 p, .slice B m d] w (MadeMx w n (withPage L p cs)) := by
  have hl := ha.1
  have hcl := ints_len hb
  have HR : Hid (Rows L) := hr
  cases h0 : hasB p n
  · have HC : Hid (withPage L p cs = L) := by show withPage L p cs = L; rw [withPage, hl, h0]; rfl
    rw [HC.out]
    have H0 := Lib.hid h0
    clear h0 hl hr hcl
    go_enter Try.func37, Try.ntmps37
    go_wp2_with fail
    refine (copyMem_c _ n c L _ ha hn HR.out).mono ?_
    rintro e w1 ⟨A1, c1, vs, rfl, O1, hb1⟩
    go_wp2_with fail
    refine (has_v (v := false) H0.out _).mono ?_
    rintro e w' ⟨rfl, rfl⟩
    go_wp2
    go_ret
    exact ⟨A1, c1, vs, rfl, O1, hb1⟩
  · cases h2 : pageOk cs
    · have HC : Hid (withPage L p cs = L) := by show withPage L p cs = L; rw [withPage, hl, h0, h2]; rfl
      rw [HC.out]
      have H0 := Lib.hid h0
      have H2 := Lib.hid h2
      clear h0 h2 hl hr hcl
      go_enter Try.func37, Try.ntmps37
      go_wp2_with fail
      refine (copyMem_c _ n c L _ ha hn HR.out).mono ?_
      rintro e w1 ⟨A1, c1, vs, rfl, O1, hb1⟩
      go_wp2_with fail
      refine (has_v (v := true) H0.out _).mono ?_
      rintro e w' ⟨rfl, rfl⟩
      go_wp2_with fail
      refine (iPageOk_v H2.out B m d _ (hb.below hb1) hm).mono ?_
      rintro e w' ⟨rfl, rfl⟩
      go_wp2
      go_ret
      exact ⟨A1, c1, vs, rfl, O1, hb1⟩
    · obtain ⟨h1, h3⟩ : 0 ≤ p ∧ p < n := by simpa [hasB] using h0
      obtain ⟨k, rfl⟩ := Int.eq_ofNat_of_zero_le h1
      have hlt : k < n := by omega
      have HC : Hid (withPage L (k : Int) cs = L.set k cs) := by show withPage L (k : Int) cs = L.set k cs; rw [withPage, hl, h0, h2]; rfl
      rw [HC.out]
      have H0 := Lib.hid h0
      have H2 := Lib.hid h2
      have HM := Lib.hid hcl
      clear h0 h1 h2 h3 hl hr hcl
      go_enter Try.func37, Try.ntmps37
      go_wp2_with fail
      refine (copyMem_c _ n c L _ ha hn HR.out).mono ?_
      rintro e w1 ⟨A1, c1, vs, rfl, O1, hb1⟩
      go_wp2_with fail
      obtain ⟨g, rfl⟩ := own_at O1.row (by omega)
      refine (has_v (v := true) H0.out _).mono ?_
      rintro e w' ⟨rfl, rfl⟩
      go_wp2_with fail
      refine (iPageOk_v H2.out B m d _ (hb.below hb1) hm).mono ?_
      rintro e w' ⟨rfl, rfl⟩
      go_wp2_with fail
      refine (copyInts_c B m d cs _ (hb.below hb1) hm).mono ?_
      rintro e w2 ⟨A2, c2, rfl, O2, hbw⟩
      have hmx := O1.kept hbw
      have hfr := O1.fresh O2 (Nat.le_refl _)
      replace O2 := own_base O2 hb1.size
      have hbel2 : Below w.heap.size w w2 := hb1.trans (hbw.mono hb1.size)
      have hput := hmx.put k hlt (.slice A2 m c2) cs A2 c2 (by rw [HM.out]) (by rw [HM.out]; exact O2) hfr
      have hg := (hmx.row.lt g rfl).1
      have hbel3 := hbel2.grown hput.2 hbel2.size (fun k hk => by cases hk; exact hg)
      have d0 : ∃ u, w2.cell? ⟨g, k, none⟩ = some u := ⟨_, (hmx.row.cellAt k (by omega)).trans (List.getElem?_eq_getElem (by have := hmx.vlen; omega))⟩
      obtain ⟨u, d0⟩ := d0
      have z0 : w2.frozen? ⟨g, k, none⟩ = false := hmx.row.frozenAt _
      have HS := Lib.hid hput.1
      clear hput hmx O2 hfr hbel2 hbw
      go_wp2
      go_ret
      exact ⟨_, _, _, rfl, HS.out, hbel3⟩
theorem l04Ints_c (A B : Option Addr) (n m c d : Nat) (l r : List Int) (w : World) (ha : Rd w 1 A n (intCells l)) (hb : Rd w 1 B m (intCells r)) (hn : n ≤ 1048576) (hm : m ≤ 1048576) :
    Calls Try.prog 64 #[.slice A n c, .slice B m d] w fun e w' => e = .returned (.bool (decide (l = r))) ∧ Below w.heap.size w w' := by
  have hl := ints_len ha
  have hr := ints_len hb
  by_cases hnm : n = m
  · subst hnm
    go_enter Try.func64, Try.ntmps64
    go_wp2
    go_loopw [5] (fun i wr => ∃ k : Nat, k ≤ n ∧ i = .int .i64 k ∧ Hid (l.take k = r.take k) ∧ Below w.heap.size w wr) (fun i _ => n - (intOf i).toNat)
    case atStart => exact ⟨0, by omega, rfl, rfl, Below.refl _ _⟩
    case round =>
      obtain ⟨k, hk, rfl, heq, hbel⟩ := hrel
      by_cases hlt : k < n
      · obtain ⟨b, o, p, rfl, hlk, c0⟩ := (ha.below hbel).int k hlt
        obtain ⟨b', o', p', rfl, hrk, c2⟩ := (hb.below hbel).int k hlt
        have f0 : ∀ x : Ext wr, x.w.cell? _ = _ := fun x => (x.cell (World.block_lt_of_cell? _ _ c0)).trans c0
        have f2 : ∀ x : Ext wr, x.w.cell? _ = _ := fun x => (x.cell (World.block_lt_of_cell? _ _ c2)).trans c2
        have H1 := Lib.hid hlk
        have H2 := Lib.hid hrk
        have H3 := Lib.hid hl
        have H4 := Lib.hid hr
        clear c0 c2 hlk hrk hl hr
        cases hs : (p == p')
        all_goals
          go_wp2_with fail
          refine wp_region_ext (by kernel_rfl) (by kernel_rfl) ?_
          repeat (go_big_quiet_step (fail))
          refine wpQuiet_nil ?_
          intro w1 hw'
          have hb1 := Ext.out hw'
          clear hw' f0 f2
          go_wp2
        · go_ret
          refine ⟨?_, hbel.trans (hb1.mono hbel.size)⟩
          have hne : l ≠ r := by
            rintro rfl
            have e := H1.out.symm.trans H2.out
            simp only [Option.some.injEq] at e
            simp [e] at hs
          simp [hne]
        · go_roundw
          case rel =>
            refine ⟨k + 1, by omega, by go_num, ?_, hbel.trans (hb1.mono hbel.size)⟩
            show l.take (k + 1) = r.take (k + 1)
            rw [List.take_add_one, List.take_add_one, heq.out, H1.out, H2.out, eq_of_beq hs]
          case measure => simp [intOf]; omega
      · go_wp2
        go_ret
        refine ⟨?_, hbel⟩
        obtain rfl : k = n := by omega
        have e := heq.out
        rw [List.take_of_length_le (by omega), List.take_of_length_le (by omega)] at e
        simp [e]
  · have h0 : ((n : Int) == m) = false := by simp; omega
    go_enter Try.func64, Try.ntmps64
    go_wp2
    go_ret
    have hne : l ≠ r := by rintro rfl; omega
    exact ⟨by simp [hne], Below.refl _ _⟩
theorem l04Ints_v {l r : List Int} {v : Bool} (h : decide (l = r) = v) (A B : Option Addr) (n m c d : Nat) (w : World) (ha : Rd w 1 A n (intCells l)) (hb : Rd w 1 B m (intCells r)) (hn : n ≤ 1048576) (hm : m ≤ 1048576) :
    Calls Try.prog 64 #[.slice A n c, .slice B m d] w fun e w' => e = .returned (.bool v) ∧ Below w.heap.size w w' := by
  subst h; exact l04Ints_c A B n m c d l r w ha hb hn hm
theorem eqSlicesI_c (A B : Option Addr) (n m c d : Nat) (l r : List Int) (w : World) (ha : Rd w 1 A n (intCells l)) (hb : Rd w 1 B m (intCells r)) (hn : n ≤ 1048576) (hm : m ≤ 1048576) :
    Calls Try.prog 67 #[.slice A n c, .slice B m d] w fun e w' => e = .returned (.bool (decide (l = r))) ∧ Below w.heap.size w w' := by
  have hl := ints_len ha
  have hr := ints_len hb
  by_cases hnm : n = m
  · subst hnm
    go_enter Try.func67, Try.ntmps67
    go_wp2
    go_loopw [13] (fun i wr => ∃ k : Nat, k ≤ n ∧ i = .int .i64 k ∧ Hid (l.take k = r.take k) ∧ Below w.heap.size w wr) (fun i _ => n - (intOf i).toNat)
    case atStart => exact ⟨0, by omega, rfl, rfl, Below.refl _ _⟩
    case round =>
      obtain ⟨k, hk, rfl, heq, hbel⟩ := hrel
      by_cases hlt : k < n
      · obtain ⟨b, o, p, rfl, hlk, c0⟩ := (ha.below hbel).int k hlt
        obtain ⟨b', o', p', rfl, hrk, c2⟩ := (hb.below hbel).int k hlt
        have f0 : ∀ x : Ext wr, x.w.cell? _ = _ := fun x => (x.cell (World.block_lt_of_cell? _ _ c0)).trans c0
        have f2 : ∀ x : Ext wr, x.w.cell? _ = _ := fun x => (x.cell (World.block_lt_of_cell? _ _ c2)).trans c2
        have H1 := Lib.hid hlk
        have H2 := Lib.hid hrk
        have H3 := Lib.hid hl
        have H4 := Lib.hid hr
        clear c0 c2 hlk hrk hl hr
        cases hs : (p == p')
        all_goals
          go_wp2_with fail
          refine wp_region_ext (by kernel_rfl) (by kernel_rfl) ?_
          repeat (go_big_quiet_step (fail))
          refine wpQuiet_nil ?_
          intro w1 hw'
          have hb1 := Ext.out hw'
          clear hw' f0 f2
          go_wp2
        · go_ret
          refine ⟨?_, hbel.trans (hb1.mono hbel.size)⟩
          have hne : l ≠ r := by
            rintro rfl
            have e := H1.out.symm.trans H2.out
            simp only [Option.some.injEq] at e
            simp [e] at hs
          simp [hne]
        · go_roundw
          case rel =>
            refine ⟨k + 1, by omega, by go_num, ?_, hbel.trans (hb1.mono hbel.size)⟩
            show l.take (k + 1) = r.take (k + 1)
            rw [List.take_add_one, List.take_add_one, heq.out, H1.out, H2.out, eq_of_beq hs]
          case measure => simp [intOf]; omega
      · go_wp2
        go_ret
        refine ⟨?_, hbel⟩
        obtain rfl : k = n := by omega
        have e := heq.out
        rw [List.take_of_length_le (by omega), List.take_of_length_le (by omega)] at e
        simp [e]
  · have h0 : ((n : Int) == m) = false := by simp; omega
    go_enter Try.func67, Try.ntmps67
    go_wp2
    go_ret
    have hne : l ≠ r := by rintro rfl; omega
    exact ⟨by simp [hne], Below.refl _ _⟩
theorem eqSlicesI_v {l r : List Int} {v : Bool} (h : decide (l = r) = v) (A B : Option Addr) (n m c d : Nat) (w : World) (ha : Rd w 1 A n (intCells l)) (hb : Rd w 1 B m (intCells r)) (hn : n ≤ 1048576) (hm : m ≤ 1048576) :
    Calls Try.prog 67 #[.slice A n c, .slice B m d] w fun e w' => e = .returned (.bool v) ∧ Below w.heap.size w w' := by
  subst h; exact eqSlicesI_c A B n m c d l r w ha hb hn hm
theorem same1_v {l r : List Int} {v : Bool} (h : decide (l = r) = v) (A B : Option Addr) (n m c d : Nat) (w : World) (ha : Rd w 1 A n (intCells l)) (hb : Rd w 1 B m (intCells r)) (hn : n ≤ 1048576) (hm : m ≤ 1048576) :
    Calls Try.prog 66 #[.slice A n c, .slice B m d] w fun e w' => e = .returned (.bool v) ∧ Below w.heap.size w w' := by
  go_enter Try.func66, Try.ntmps66
  go_wp2_with fail
  refine (eqSlicesI_v h A B n m c d _ ha hb hn hm).mono ?_
  rintro e w1 ⟨rfl, hb1⟩
  go_wp2
  go_ret
  exact ⟨rfl, hb1⟩
theorem sSameMem_c (A B : Option Addr) (n m c d : Nat) (L R : List (List Int)) (w : World) (ha : Mx w A n L) (hb : Mx w B m R) (hn : n ≤ 1048576) (hm : m ≤ 1048576) (hL : Rows L) (hR : Rows R) :
    Calls Try.prog 38 #[.slice A n c, .slice B m d] w fun e w' => e = .returned (.bool (decide (L = R))) ∧ Below w.heap.size w w' := by
  have hl := ha.1
  have hr := hb.1
  have HL : Hid (Rows L) := hL
  have HR : Hid (Rows R) := hR
  clear hL hR
  by_cases hnm : n = m
  · subst hnm
    go_enter Try.func38, Try.ntmps38
    go_wp2
    go_loopw [5] (fun i wr => ∃ k : Nat, k ≤ n ∧ i = .int .i64 k ∧ Hid (L.take k = R.take k) ∧ Below w.heap.size w wr) (fun i _ => n - (intOf i).toNat)
    case atStart => exact ⟨0, by omega, rfl, rfl, Below.refl _ _⟩
    case round =>
      obtain ⟨k, hk, rfl, heq, hbel⟩ := hrel
      by_cases hlt : k < n
      · obtain ⟨b, o, Ai, ci, l, rfl, hlk, c0, hrd⟩ := (ha.below hbel).row k hlt
        obtain ⟨b', o', Bi, di, r, rfl, hrk, c2, hrd'⟩ := (hb.below hbel).row k hlt
        have hq1 := HL.out k l hlk
        have hq2 := HR.out k r hrk
        have f0 : ∀ x : Ext wr, x.w.cell? _ = _ := fun x => (x.cell (World.block_lt_of_cell? _ _ c0)).trans c0
        have f2 : ∀ x : Ext wr, x.w.cell? _ = _ := fun x => (x.cell (World.block_lt_of_cell? _ _ c2)).trans c2
        have H1 := Lib.hid hlk
        have H2 := Lib.hid hrk
        have H3 := Lib.hid hl
        have H4 := Lib.hid hr
        clear c0 c2 hlk hrk hl hr
        cases hs : decide (l = r)
        all_goals
          have H5 := Lib.hid hs
          clear hs
          go_wp2_with fail
          refine wp_region_ext (by kernel_rfl) (by kernel_rfl) ?_
          repeat (go_big_quiet_step ((go_at_call 64; exact Ext.call _ (l04Ints_v H5.out _ _ _ _ _ _ _ (hrd.below (Ext.below _)) (hrd'.below (Ext.below _)) hq1 hq2))))
          refine wpQuiet_nil ?_
          intro w1 hw'
          have hb1 := Ext.out hw'
          clear hw' f0 f2 hrd hrd'
          go_wp2
        · go_ret
          refine ⟨?_, hbel.trans (hb1.mono hbel.size)⟩
          have hne : L ≠ R := by
            rintro rfl
            have e := H1.out.symm.trans H2.out
            simp only [Option.some.injEq] at e
            simpa [e] using H5.out
          simp [hne]
        · go_roundw
          case rel =>
            refine ⟨k + 1, by omega, by go_num, ?_, hbel.trans (hb1.mono hbel.size)⟩
            show L.take (k + 1) = R.take (k + 1)
            rw [List.take_add_one, List.take_add_one, heq.out, H1.out, H2.out, of_decide_eq_true H5.out]
          case measure => simp [intOf]; omega
      · go_wp2
        go_ret
        refine ⟨?_, hbel⟩
        obtain rfl : k = n := by omega
        have e := heq.out
        rw [List.take_of_length_le (by omega), List.take_of_length_le (by omega)] at e
        simp [e]
  · have h0 : ((n : Int) == m) = false := by simp; omega
    go_enter Try.func38, Try.ntmps38
    go_wp2
    go_ret
    have hne : L ≠ R := by rintro rfl; omega
    exact ⟨by simp [hne], Below.refl _ _⟩
end Go.Proofs.Ytjgphiialfhdlaa
