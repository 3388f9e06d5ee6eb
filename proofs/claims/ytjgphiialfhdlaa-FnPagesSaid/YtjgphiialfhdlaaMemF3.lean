/- Contracts of memory functions: MemNew, PageAt, WithCell, WithPage. Bounds: at most 1048576 rows of at most 1048576 numbers. -/
import Derived.Test.YtjgphiialfhdlaaMemF2
namespace Go.Proofs.Ytjgphiialfhdlaa
open Go.RowKit
set_option linter.unusedVariables false
set_option maxHeartbeats 1000000

theorem brought24 (n : Int) : 0 ≤ brought n 0 24 ∧ brought n 0 24 ≤ 24 := by
  unfold brought
  split
  · omega
  · split <;> omega
theorem sMemNew_c (n : Int) (w : World) : Calls Try.prog 24 #[.int .i64 n] w (MadeMx w (memNew n).length (memNew n)) := by
  obtain ⟨i0, hi, hz0, hz1, hz2⟩ := info_parts info_ints
  have hmk := hmk4
  obtain ⟨b0, b1⟩ := brought24 n
  obtain ⟨N, hN⟩ := Int.eq_ofNat_of_zero_le b0
  have hL : memNew n = List.replicate N [0, 0, 0, 0] := by rw [memNew, hN]; rfl
  rw [hL, List.length_replicate]
  have hN24 : N ≤ 24 := by omega
  have HN := Lib.hid hN
  clear hL hN b0 b1
  go_enter Try.func24, Try.ntmps24
  go_wp2_with fail
  refine (sBrought_c _ _ _ _).mono ?_
  rintro e w' ⟨rfl, rfl⟩
  rw [HN.out]
  go_wp2
  have hmx0 := OwnMx.none_ w w.heap.size (Nat.le_refl _)
  go_loopw [3, 4] (fun v i wr => ∃ (k : Nat) (G : Option Addr) (cc : Nat), k ≤ N ∧ i = .int .i64 ((N : Int) - k) ∧ v = .slice G k cc ∧ (∃ vs, OwnMx wr w.heap.size G k cc (List.replicate k [0, 0, 0, 0]) vs) ∧ Below w.heap.size w wr) (fun _ i _ => (intOf i).toNat)
  case atStart => exact ⟨0, _, _, by omega, by simp, rfl, ⟨[], by simpa using hmx0⟩, (Below.refl _ _).alloc (Nat.le_refl _) _⟩
  case round =>
    obtain ⟨k, G, cc, hk, rfl, rfl, ⟨vs, hown⟩, hbel⟩ := hrel
    clear hmx0
    by_cases hlt : k < N
    · have O2 := World.ownsRow_lit (base := wr.heap.size) (e := 3) (size := 1) wr #[.int .i64 0, .int .i64 0, .int .i64 0, .int .i64 0] 4 (Nat.le_refl _) (by unfold maxLen; omega) (by simp)
      have hbl : Below wr.heap.size wr (wr.alloc (.cells #[.int .i64 0, .int .i64 0, .int .i64 0, .int .i64 0] 3)) := (Below.refl _ _).alloc (Nat.le_refl _) _
      have hown2 := hown.kept hbl
      have hfr := hown.fresh O2 (Nat.le_refl _)
      replace O2 := own_base O2 hbel.size
      have hbel2 : Below w.heap.size w (wr.alloc (.cells #[.int .i64 0, .int .i64 0, .int .i64 0, .int .i64 0] 3)) := hbel.trans (hbl.mono hbel.size)
      clear hbl hown
      go_wp2_with (at_builtin; refine wpList_append_own _ rfl _ _ 26 rfl w.heap.size 22 i0 (.slice none 0 0) 1 24 Try.underlying26 hi hz0 hz1 hz2 rfl (by decide) (.slice G k cc) k vs rfl (hown2.row.alloc _) ⟨wr.heap.size + 1, 0, none⟩ 1 1 [.slice (some ⟨wr.heap.size, 0, none⟩) 4 4] rfl rfl ?c1 ?c2 ?c3 ?c4 ?c5 ?_)
      
      case c2 => first | rfl | (intro u hu; simp at hu; subst hu; rfl)
      case c3 => unfold maxLen; omega
      case c4 => omega
      case c5 => have := hbel.size; simp; omega
      intro v' w3 hown3 hgr3 _
      have hbel3 := below_grown (hbel2.alloc hbel2.size _) (hown2.row.alloc _) (Nat.le_refl _) hgr3
      obtain ⟨G', cc', rfl⟩ := own_shape hown3
      have hP := hown2.pushed [0, 0, 0, 0] _ _ O2 hfr hown3 hgr3
      have HP := Lib.hid hP
      clear hP hown3 hgr3 hown2 O2 hfr hbel2
      go_wp2
      go_roundw
      case rel =>
        refine ⟨k + 1, G', cc', by omega, by go_num, rfl, ⟨vs ++ [.slice (some ⟨wr.heap.size, 0, none⟩) 4 4], ?_⟩, hbel3⟩
        rw [List.replicate_succ']
        exact HP.out
      case measure => simp [intOf]; omega
    · obtain rfl : k = N := by omega
      go_wp2
      go_ret
      exact ⟨_, _, vs, rfl, hown, hbel⟩
theorem iMemNew_c (n : Int) (w : World) : Calls Try.prog 25 #[.int .i64 n] w (MadeMx w (memNew n).length (memNew n)) := by
  obtain ⟨i0, hi, hz0, hz1, hz2⟩ := info_parts info_ints
  have hmk := hmk4
  obtain ⟨b0, b1⟩ := brought24 n
  obtain ⟨N, hN⟩ := Int.eq_ofNat_of_zero_le b0
  have hL : memNew n = List.replicate N [0, 0, 0, 0] := by rw [memNew, hN]; rfl
  rw [hL, List.length_replicate]
  have hN24 : N ≤ 24 := by omega
  have HN := Lib.hid hN
  clear hL hN b0 b1
  go_enter Try.func25, Try.ntmps25
  go_wp2
  have hmx0 := OwnMx.none_ w w.heap.size (Nat.le_refl _)
  go_loopw [3, 4] (fun v i wr => ∃ (k : Nat) (G : Option Addr) (cc : Nat), k ≤ N ∧ i = .int .i64 ((k : Int)) ∧ v = .slice G k cc ∧ (∃ vs, OwnMx wr w.heap.size G k cc (List.replicate k [0, 0, 0, 0]) vs) ∧ Below w.heap.size w wr) (fun _ i _ => N - (intOf i).toNat)
  case atStart => exact ⟨0, _, _, by omega, by simp, rfl, ⟨[], by simpa using hmx0⟩, (Below.refl _ _).alloc (Nat.le_refl _) _⟩
  case round =>
    obtain ⟨k, G, cc, hk, rfl, rfl, ⟨vs, hown⟩, hbel⟩ := hrel
    clear hmx0
    by_cases hlt : k < N
    · have O2 := World.ownsRow_lit (base := wr.heap.size) (e := 3) (size := 1) wr #[.int .i64 0, .int .i64 0, .int .i64 0, .int .i64 0] 4 (Nat.le_refl _) (by unfold maxLen; omega) (by simp)
      have hbl : Below wr.heap.size wr (wr.alloc (.cells #[.int .i64 0, .int .i64 0, .int .i64 0, .int .i64 0] 3)) := (Below.refl _ _).alloc (Nat.le_refl _) _
      have hown2 := hown.kept hbl
      have hfr := hown.fresh O2 (Nat.le_refl _)
      replace O2 := own_base O2 hbel.size
      have hbel2 : Below w.heap.size w (wr.alloc (.cells #[.int .i64 0, .int .i64 0, .int .i64 0, .int .i64 0] 3)) := hbel.trans (hbl.mono hbel.size)
      clear hbl hown
      go_wp2_with fail
      refine (iBrought_c _ _ _ _).mono ?_
      rintro e w' ⟨rfl, rfl⟩
      rw [HN.out]
      go_wp2_with (at_builtin; refine wpList_append_own _ rfl _ _ 26 rfl w.heap.size 22 i0 (.slice none 0 0) 1 24 Try.underlying26 hi hz0 hz1 hz2 rfl (by decide) (.slice G k cc) k vs rfl (hown2.row.alloc _) ⟨wr.heap.size + 1, 0, none⟩ 1 1 [.slice (some ⟨wr.heap.size, 0, none⟩) 4 4] rfl rfl ?c1 ?c2 ?c3 ?c4 ?c5 ?_)
      case c1 => have h := new_one (wr.alloc (.cells #[.int .i64 0, .int .i64 0, .int .i64 0, .int .i64 0] 3)) #[.slice (some ⟨wr.heap.size, 0, none⟩) 4 4] 22; simpa only [World.size_alloc] using h
      case c2 => first | rfl | (intro u hu; simp at hu; subst hu; rfl)
      case c3 => unfold maxLen; omega
      case c4 => omega
      case c5 => have := hbel.size; simp; omega
      intro v' w3 hown3 hgr3 _
      have hbel3 := below_grown (hbel2.alloc hbel2.size _) (hown2.row.alloc _) (Nat.le_refl _) hgr3
      obtain ⟨G', cc', rfl⟩ := own_shape hown3
      have hP := hown2.pushed [0, 0, 0, 0] _ _ O2 hfr hown3 hgr3
      have HP := Lib.hid hP
      clear hP hown3 hgr3 hown2 O2 hfr hbel2
      go_wp2
      go_roundw
      case rel =>
        refine ⟨k + 1, G', cc', by omega, by go_num, rfl, ⟨vs ++ [.slice (some ⟨wr.heap.size, 0, none⟩) 4 4], ?_⟩, hbel3⟩
        rw [List.replicate_succ']
        exact HP.out
      case measure => simp [intOf]; omega
    · obtain rfl : k = N := by omega
      go_wp2_with fail
      refine (iBrought_c _ _ _ _).mono ?_
      rintro e w' ⟨rfl, rfl⟩
      rw [HN.out]
      go_wp2
      go_ret
      exact ⟨_, _, vs, rfl, hown, hbel⟩
theorem sPageAt_c (p : Int) (A : Option Addr) (n c : Nat) (L : List (List Int)) (w : World) (ha : Mx w A n L) (hn : n ≤ 1048576) (hr : Rows L) :
    Calls Try.prog 32 #[.slice A n c, .int .i64 p] w (Made w 3 1 (pageAt L p).length (intCells (pageAt L p))) := by
  have hl := ha.1
  have hmk := hmk4
  cases h0 : hasB p n
  · have HP : Hid (pageAt L p = [0, 0, 0, 0]) := by show pageAt L p = [0, 0, 0, 0]; rw [pageAt, hl, h0]; rfl
    have H0 := Lib.hid h0
    have HR : Hid (Rows L) := hr
    clear h0 hl hr
    have O2 := World.ownsRow_lit (base := w.heap.size) (e := 3) (size := 1) w #[.int .i64 0, .int .i64 0, .int .i64 0, .int .i64 0] 4 (Nat.le_refl _) (by unfold maxLen; omega) (by simp)
    go_enter Try.func32, Try.ntmps32
    go_wp2_with fail
    refine (l01In_v (v := false) (by rw [inB_has]; exact H0.out) _).mono ?_
    rintro e w' ⟨rfl, rfl⟩
    go_wp2
    go_ret
    rw [HP.out]
    exact Made.mk rfl O2 ((Below.refl _ _).alloc (Nat.le_refl _) _)
  · obtain ⟨h1, h2⟩ : 0 ≤ p ∧ p < n := by simpa [hasB] using h0
    obtain ⟨k, rfl⟩ := Int.eq_ofNat_of_zero_le h1
    obtain ⟨b, o, Ai, ci, l, rfl, hlk, c0, hrd⟩ := ha.row k (by omega)
    have hlt : k < n := by omega
    have hq := hr k l hlk
    have HP : Hid (pageAt L (k : Int) = l) := by show pageAt L (k : Int) = l; rw [pageAt, hl, h0, rowAt_of hlk]; rfl
    have H0 := Lib.hid h0
    clear h0 h1 h2 hl hlk hr
    go_enter Try.func32, Try.ntmps32
    go_wp2_with fail
    refine (l01In_v (v := true) (by rw [inB_has]; exact H0.out) _).mono ?_
    rintro e w' ⟨rfl, rfl⟩
    have hlit := World.ownsRow_lit (base := w.heap.size) (e := 3) (size := 1) w #[] 0 (Nat.le_refl _) (by simp) (by simp)
    have hbl : Below w.heap.size w (w.alloc (.cells #[] 3)) := (Below.refl _ _).alloc (Nat.le_refl _) _
    have c0' := below_keep hbl _ _ c0
    obtain ⟨i0, hi, hz0, hz1, hz2⟩ := info_parts info_int'
    go_wp2_with (at_builtin; refine wpList_append_rd _ rfl _ _ 22 rfl w.heap.size 3 i0 (.int .i64 0) 1 8 Try.underlying22 hi hz0 hz1 hz2 rfl (by decide) (.slice (some ⟨w.heap.size, 0, none⟩) 0 0) 0 [] rfl hlit Ai l.length ci (intCells l) rfl (hrd.below hbl) (intCells_one l) (by unfold maxLen; omega) (by omega) (by simp) ?_; intro v2 w2 O2 hg2)
    have hbel1 := below_grown hbl hlit (Nat.le_refl _) hg2
    simp only [Nat.zero_add, List.nil_append] at O2
    go_ret
    rw [HP.out]
    exact Made.mk rfl O2 hbel1
theorem iPageAt_c (p : Int) (A : Option Addr) (n c : Nat) (L : List (List Int)) (w : World) (ha : Mx w A n L) (hn : n ≤ 1048576) (hr : Rows L) :
    Calls Try.prog 33 #[.slice A n c, .int .i64 p] w (Made w 3 1 (pageAt L p).length (intCells (pageAt L p))) := by
  have hl := ha.1
  have hmk := hmk4
  cases h0 : hasB p n
  · have HP : Hid (pageAt L p = [0, 0, 0, 0]) := by show pageAt L p = [0, 0, 0, 0]; rw [pageAt, hl, h0]; rfl
    have H0 := Lib.hid h0
    have HR : Hid (Rows L) := hr
    clear h0 hl hr
    have O2 := World.ownsRow_lit (base := w.heap.size) (e := 3) (size := 1) w #[.int .i64 0, .int .i64 0, .int .i64 0, .int .i64 0] 4 (Nat.le_refl _) (by unfold maxLen; omega) (by simp)
    go_enter Try.func33, Try.ntmps33
    go_wp2_with fail
    refine (has_v (v := false) H0.out _).mono ?_
    rintro e w' ⟨rfl, rfl⟩
    go_wp2
    go_ret
    rw [HP.out]
    exact Made.mk rfl O2 ((Below.refl _ _).alloc (Nat.le_refl _) _)
  · obtain ⟨h1, h2⟩ : 0 ≤ p ∧ p < n := by simpa [hasB] using h0
    obtain ⟨k, rfl⟩ := Int.eq_ofNat_of_zero_le h1
    obtain ⟨b, o, Ai, ci, l, rfl, hlk, c0, hrd⟩ := ha.row k (by omega)
    have hlt : k < n := by omega
    have hq := hr k l hlk
    have HP : Hid (pageAt L (k : Int) = l) := by show pageAt L (k : Int) = l; rw [pageAt, hl, h0, rowAt_of hlk]; rfl
    have H0 := Lib.hid h0
    clear h0 h1 h2 hl hlk hr
    go_enter Try.func33, Try.ntmps33
    go_wp2_with fail
    refine (has_v (v := true) H0.out _).mono ?_
    rintro e w' ⟨rfl, rfl⟩
    go_wp2_with fail
    refine (copyInts_c Ai l.length ci l _ hrd hq).mono ?_
    rintro e w2 ⟨A2, c2, rfl, O2, hb2⟩
    go_wp2
    go_ret
    rw [HP.out]
    exact ⟨A2, c2, rfl, O2, hb2⟩
theorem OwnMx.cellSet {w : World} {base n c : Nat} {A : Option Addr} {L : List (List Int)} {vs : List Value} (h : OwnMx w base A n c L vs) (k j : Nat) (l : List Int) (hl : L[k]? = some l) (hj : j < l.length) :
    ∃ g gr ci x, A = some ⟨g, 0, none⟩ ∧ base ≤ gr ∧ w.cell? ⟨g, k, none⟩ = some (.slice (some ⟨gr, 0, none⟩) l.length ci) ∧ w.cell? ⟨gr, j, none⟩ = some (.int .i64 x) ∧ w.frozen? ⟨gr, j, none⟩ = false ∧
      ∀ v : Int, OwnMx (w.setCell ⟨gr, j, none⟩ (.int .i64 v)) base A n c (L.set k (l.set j v)) vs ∧ GrownS w (w.setCell ⟨gr, j, none⟩ (.int .i64 v)) (inRows vs) := by
  have hk : k < n := by have := (List.getElem?_eq_some_iff.1 hl).1; have := h.len; omega
  obtain ⟨g, rfl⟩ := own_at h.row (by omega)
  have hv : vs[k]? = some (vs[k]'(by have := h.vlen; omega)) := List.getElem?_eq_getElem _
  generalize vs[k]'(by have := h.vlen; omega) = v at hv
  obtain ⟨Ai, ci, rfl, ho⟩ := h.rows k v l hv hl
  obtain ⟨gr, rfl⟩ := own_at ho (by omega)
  obtain ⟨x, hx, c0, z0⟩ := own_int_at ho j hj
  refine ⟨g, gr, ci, x, rfl, (ho.lt gr rfl).1, (h.row.cellAt k (by omega)).trans hv, c0, z0, fun q => ?_⟩
  have hs := own_int_set ho j q
  exact h.row_written k _ hv (l.set j q) (fun l' hl' => by
    rw [hl] at hl'
    injection hl' with hl'
    simp [hl']) (by simpa using hs.1) hs.2
theorem sWithCell_c (p q v : Int) (A : Option Addr) (n c : Nat) (L : List (List Int)) (w : World) (ha : Mx w A n L) (hn : n ≤ 1048576) (hr : Rows L) :
    Calls Try.prog 30 #[.slice A n c, .int .i64 p, .int .i64 q, .int .i64 v] w (MadeMx w n (withCell L p q v)) := by
  have hl := ha.1
  cases h : has2 L p q && inB v 0 99
  · have HC : Hid (withCell L p q v = L) := by show withCell L p q v = L; rw [withCell, h]; rfl
    rw [HC.out]
    have HR : Hid (Rows L) := hr
    clear hl hr
    cases h2 : has2 L p q
    · have H2 := Lib.hid h2
      clear h h2
      go_enter Try.func30, Try.ntmps30
      go_wp2_with fail
      refine (l04Copy_c _ n c L _ ha hn HR.out).mono ?_
      rintro e w1 ⟨A1, c1, vs, rfl, O1, hb1⟩
      go_wp2_with fail
      refine (l04Has_v H2.out A n c _ (ha.below hb1) hn HR.out).mono ?_
      rintro e w' ⟨rfl, rfl⟩
      go_wp2
      go_ret
      exact ⟨A1, c1, vs, rfl, O1, hb1⟩
    · have H3 : Hid (inB v 0 99 = false) := by show inB v 0 99 = false; rw [h2] at h; simpa using h
      have H2 := Lib.hid h2
      clear h h2
      go_enter Try.func30, Try.ntmps30
      go_wp2_with fail
      refine (l04Copy_c _ n c L _ ha hn HR.out).mono ?_
      rintro e w1 ⟨A1, c1, vs, rfl, O1, hb1⟩
      go_wp2_with fail
      refine (l04Has_v H2.out A n c _ (ha.below hb1) hn HR.out).mono ?_
      rintro e w' ⟨rfl, rfl⟩
      go_wp2_with fail
      refine (l01In_v H3.out _).mono ?_
      rintro e w' ⟨rfl, rfl⟩
      go_wp2
      go_ret
      exact ⟨A1, c1, vs, rfl, O1, hb1⟩
  · rw [Bool.and_eq_true] at h
    obtain ⟨h2, hv⟩ := h
    obtain ⟨k, j, l, x, rfl, rfl, hk, hj⟩ := has2_true h2
    have hlt : k < n := by have := (List.getElem?_eq_some_iff.1 hk).1; omega
    have hjl : j < l.length := (List.getElem?_eq_some_iff.1 hj).1
    have hq := hr k l hk
    have HC : Hid (withCell L (k : Int) (j : Int) v = L.set k (l.set j v)) := by
      show withCell L (k : Int) (j : Int) v = L.set k (l.set j v)
      rw [withCell, h2, hv, rowAt_of hk]
      rfl
    rw [HC.out]
    obtain ⟨b, o, Ai, ci, l', rfl, hlk, d0, hrd⟩ := ha.row k hlt
    obtain rfl : l' = l := by
      have e := hlk.symm.trans hk
      simpa using e
    have HR : Hid (Rows L) := hr
    have H2 := Lib.hid h2
    have HV := Lib.hid hv
    have HK := Lib.hid hk
    have H0 : Hid (hasB (k : Int) n = true) := by show hasB (k : Int) n = true; simp [hasB]; omega
    have H1 : Hid (hasB (j : Int) l'.length = true) := by show hasB (j : Int) l'.length = true; simp [hasB]; omega
    clear h2 hv hk hj hlk hl hr
    go_enter Try.func30, Try.ntmps30
    go_wp2_with fail
    refine (l04Copy_c _ n c L _ ha hn HR.out).mono ?_
    rintro e w1 ⟨A1, c1, vs, rfl, O1, hb1⟩
    obtain ⟨g, gr, cr, x', rfl, hgr, e0, e1, z1, hset⟩ := O1.cellSet k j l' HK.out hjl
    obtain ⟨O2, hg2⟩ := hset v
    have hb2 := O1.below_marked hb1 (Nat.le_refl _) hg2
    have d1 := below_keep hb1 _ _ d0
    have HO := Lib.hid O2
    clear hset O2 hg2
    go_wp2_with fail
    refine (l04Has_v H2.out _ n c _ (ha.below hb1) hn HR.out).mono ?_
    rintro e w' ⟨rfl, rfl⟩
    go_wp2_with fail
    refine (l01In_v HV.out _).mono ?_
    rintro e w' ⟨rfl, rfl⟩
    go_wp2
    go_ret
    exact ⟨_, _, vs, rfl, HO.out, hb2⟩
theorem iWithCell_c (p q v : Int) (A : Option Addr) (n c : Nat) (L : List (List Int)) (w : World) (ha : Mx w A n L) (hn : n ≤ 1048576) (hr : Rows L) :
    Calls Try.prog 31 #[.slice A n c, .int .i64 p, .int .i64 q, .int .i64 v] w (MadeMx w n (withCell L p q v)) := by
  have hl := ha.1
  cases h : has2 L p q && inB v 0 99
  · have HC : Hid (withCell L p q v = L) := by show withCell L p q v = L; rw [withCell, h]; rfl
    rw [HC.out]
    have HR : Hid (Rows L) := hr
    cases h0 : hasB p n
    · have H0 := Lib.hid h0
      clear h h0 hl hr
      go_enter Try.func31, Try.ntmps31
      go_wp2_with fail
      refine (copyMem_c _ n c L _ ha hn HR.out).mono ?_
      rintro e w1 ⟨A1, c1, vs, rfl, O1, hb1⟩
      go_wp2_with fail
      refine (has_v H0.out _).mono ?_
      rintro e w' ⟨rfl, rfl⟩
      go_wp2
      go_ret
      exact ⟨A1, c1, vs, rfl, O1, hb1⟩
    · obtain ⟨h1, h2⟩ : 0 ≤ p ∧ p < n := by simpa [hasB] using h0
      obtain ⟨k, rfl⟩ := Int.eq_ofNat_of_zero_le h1
      obtain ⟨b, o, Ai, ci, l, rfl, hlk, d0, hrd⟩ := ha.row k (by omega)
      have hlt : k < n := by omega
      have hq := hr k l hlk
      have H0 := Lib.hid h0
      rw [has2, hl, h0, rowAt_of hlk, Bool.true_and] at h
      cases h3 : hasB q l.length
      · have H3 := Lib.hid h3
        clear h h0 h1 h2 h3 hl hr hlk
        go_enter Try.func31, Try.ntmps31
        go_wp2_with fail
        refine (copyMem_c _ n c L _ ha hn HR.out).mono ?_
        rintro e w1 ⟨A1, c1, vs, rfl, O1, hb1⟩
        have d1 := below_keep hb1 _ _ d0
        go_wp2_with fail
        refine (has_v H0.out _).mono ?_
        rintro e w' ⟨rfl, rfl⟩
        go_wp2_with fail
        refine (has_v H3.out _).mono ?_
        rintro e w' ⟨rfl, rfl⟩
        go_wp2
        go_ret
        exact ⟨A1, c1, vs, rfl, O1, hb1⟩
      · have H4 : Hid (inB v 0 99 = false) := by show inB v 0 99 = false; rw [h3] at h; simpa using h
        have H3 := Lib.hid h3
        clear h h0 h1 h2 h3 hl hr hlk
        go_enter Try.func31, Try.ntmps31
        go_wp2_with fail
        refine (copyMem_c _ n c L _ ha hn HR.out).mono ?_
        rintro e w1 ⟨A1, c1, vs, rfl, O1, hb1⟩
        have d1 := below_keep hb1 _ _ d0
        go_wp2_with fail
        refine (has_v H0.out _).mono ?_
        rintro e w' ⟨rfl, rfl⟩
        go_wp2_with fail
        refine (has_v H3.out _).mono ?_
        rintro e w' ⟨rfl, rfl⟩
        go_wp2_with fail
        refine (within_v H4.out _).mono ?_
        rintro e w' ⟨rfl, rfl⟩
        go_wp2
        go_ret
        exact ⟨A1, c1, vs, rfl, O1, hb1⟩
  · rw [Bool.and_eq_true] at h
    obtain ⟨h2, hv⟩ := h
    obtain ⟨k, j, l, x, rfl, rfl, hk, hj⟩ := has2_true h2
    have hlt : k < n := by have := (List.getElem?_eq_some_iff.1 hk).1; omega
    have hjl : j < l.length := (List.getElem?_eq_some_iff.1 hj).1
    have hq := hr k l hk
    have HC : Hid (withCell L (k : Int) (j : Int) v = L.set k (l.set j v)) := by
      show withCell L (k : Int) (j : Int) v = L.set k (l.set j v)
      rw [withCell, h2, hv, rowAt_of hk]
      rfl
    rw [HC.out]
    obtain ⟨b, o, Ai, ci, l', rfl, hlk, d0, hrd⟩ := ha.row k hlt
    obtain rfl : l' = l := by
      have e := hlk.symm.trans hk
      simpa using e
    have HR : Hid (Rows L) := hr
    have H2 := Lib.hid h2
    have HV := Lib.hid hv
    have HK := Lib.hid hk
    have H0 : Hid (hasB (k : Int) n = true) := by show hasB (k : Int) n = true; simp [hasB]; omega
    have H1 : Hid (hasB (j : Int) l'.length = true) := by show hasB (j : Int) l'.length = true; simp [hasB]; omega
    clear h2 hv hk hj hlk hl hr
    go_enter Try.func31, Try.ntmps31
    go_wp2_with fail
    refine (copyMem_c _ n c L _ ha hn HR.out).mono ?_
    rintro e w1 ⟨A1, c1, vs, rfl, O1, hb1⟩
    obtain ⟨g, gr, cr, x', rfl, hgr, e0, e1, z1, hset⟩ := O1.cellSet k j l' HK.out hjl
    obtain ⟨O2, hg2⟩ := hset v
    have hb2 := O1.below_marked hb1 (Nat.le_refl _) hg2
    have d1 := below_keep hb1 _ _ d0
    have HO := Lib.hid O2
    clear hset O2 hg2
    go_wp2_with fail
    refine (has_v H0.out _).mono ?_
    rintro e w' ⟨rfl, rfl⟩
    go_wp2_with fail
    refine (has_v H1.out _).mono ?_
    rintro e w' ⟨rfl, rfl⟩
    go_wp2_with fail
    refine (within_v HV.out _).mono ?_
    rintro e w' ⟨rfl, rfl⟩
    go_wp2
    go_ret
    exact ⟨_, _, vs, rfl, HO.out, hb2⟩
end Go.Proofs.Ytjgphiialfhdlaa
