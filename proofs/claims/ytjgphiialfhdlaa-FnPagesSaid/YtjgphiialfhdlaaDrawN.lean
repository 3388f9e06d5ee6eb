/- Drawn memories and pages: what they read. Condition: the code holds at most 1048576 bytes. -/
import Derived.Test.YtjgphiialfhdlaaDrawM
import Derived.Test.YtjgphiialfhdlaaMemF3
import Derived.Deep.RegionWith
import Derived.Deep.DeepCutAuto
namespace Go.Proofs.Ytjgphiialfhdlaa
open Go.RowKit
set_option linter.unusedVariables false
set_option maxHeartbeats 1000000
set_option maxRecDepth 20000

theorem Rd.cur {w w' : World} {size n g : Nat} {A : Option Addr} {xs : List Value} (h : Rd w size A n xs) (hg : w.grownBy w' (some g)) (hne : ∀ p, A = some p → p.block ≠ g) : Rd w' size A n xs :=
  ⟨h.1, fun hn => by
    obtain ⟨b, o, e, hc⟩ := h.2 hn
    exact ⟨b, o, e, fun j u hu => (World.cell?_of_block (w := w) (hg.block b (World.block_lt_of_cell? w _ (hc j u hu)) (by intro e'; injection e' with e'; exact hne _ e e'))).trans (hc j u hu)⟩⟩
theorem own_cap {w : World} {base size n g c : Nat} {e : TypeId} {xs : List Value} (h : w.ownsRow base e size (.slice (some ⟨g, 0, none⟩) n c) n xs) : n ≤ c ∧ c ≤ maxLen := by
  rcases h.2 with ⟨hv, _⟩ | ⟨g', cap, cur, hv, _, _, h1, h2, _⟩
  · cases hv
  · injection hv with _ _ hc
    subst hc
    exact ⟨h1, h2⟩
theorem Cur.box {w : World} {S g b i : Nat} {v : Value} (hc : Cur w S g) (hb : b ≠ g) (hS : S ≤ b) : Cur (w.setCell ⟨b, i, none⟩ v) S g := by
  obtain ⟨A, n, c, j, h, hbk, h0, h1, h2, hs, h3⟩ := hc
  exact ⟨A, n, c, j, h, (heap_setCell_other w ⟨b, i, none⟩ g _ (fun e => hb e.symm)).trans hbk, h0, h1, h2, hs, h3.keep fun k hk => heap_setCell_other w ⟨b, i, none⟩ k _ (fun e => by have : k = b := e; omega)⟩
theorem grown_box {W w : World} {g b i : Nat} {v : Value} (h : W.grownBy w (some g)) (hb : W.heap.size ≤ b) : W.grownBy (w.setCell ⟨b, i, none⟩ v) (some g) :=
  ⟨h.os, h.tape, h.output, by have := h.size; simpa using this, fun k hk hne => (heap_setCell_other w ⟨b, i, none⟩ k _ (fun e => by have : k = b := e; omega)).trans (h.block k hk hne)⟩
theorem grown_below {W w w' : World} {g : Nat} (h : W.grownBy w (some g)) (hb : Below w.heap.size w w') : W.grownBy w' (some g) := grown_trans h ⟨hb.os, hb.tape, hb.output, hb.size, fun k hk _ => hb.block k hk⟩
theorem Rd.takeI {w : World} {A : Option Addr} {n : Nat} {l : List Int} (h : Rd w 1 A n (intCells l)) (k : Nat) (hk : k ≤ n) : Rd w 1 A k (intCells (l.take k)) := by
  have hl := ints_len h
  refine ⟨by rw [intCells_length, List.length_take]; omega, fun h0 => ?_⟩
  obtain ⟨b, o, e, hc⟩ := h.2 (by omega)
  refine ⟨b, o, e, fun j u hu => hc j u ?_⟩
  simp only [intCells, List.getElem?_map, List.getElem?_take] at hu ⊢
  split at hu
  · exact hu
  · simp at hu

/-- Rows that are read, in no block of the cursor's. -/
def MxF (w : World) (g : Nat) (A : Option Addr) (n : Nat) (L : List (List Int)) : Prop :=
  L.length = n ∧ (0 < n → ∃ b o, A = some ⟨b, o, none⟩ ∧ b ≠ g ∧ ∀ i l, L[i]? = some l → ∃ Ai ci, w.cell? ⟨b, o + i, none⟩ = some (.slice Ai l.length ci) ∧ Rd w 1 Ai l.length (intCells l) ∧ ∀ p, Ai = some p → p.block ≠ g)
theorem MxF.mx {w : World} {g n : Nat} {A : Option Addr} {L : List (List Int)} (h : MxF w g A n L) : Mx w A n L := ⟨h.1, fun hn => by
  obtain ⟨b, o, e, _, hc⟩ := h.2 hn
  exact ⟨b, o, e, fun i l hl => by obtain ⟨Ai, ci, h1, h2, _⟩ := hc i l hl; exact ⟨Ai, ci, h1, h2⟩⟩⟩
theorem MxF.cur {w w' : World} {g n : Nat} {A : Option Addr} {L : List (List Int)} (h : MxF w g A n L) (hg : w.grownBy w' (some g)) : MxF w' g A n L := ⟨h.1, fun hn => by
  obtain ⟨b, o, e, hb, hc⟩ := h.2 hn
  refine ⟨b, o, e, hb, fun i l hl => ?_⟩
  obtain ⟨Ai, ci, h1, h2, h3⟩ := hc i l hl
  exact ⟨Ai, ci, (World.cell?_of_block (w := w) (hg.block b (World.block_lt_of_cell? w _ h1) (by intro e'; injection e' with e'; exact hb e'))).trans h1, h2.cur hg h3, h3⟩⟩
theorem MxF.below {w w' : World} {g n : Nat} {A : Option Addr} {L : List (List Int)} (h : MxF w g A n L) (hb : Below w.heap.size w w') : MxF w' g A n L := ⟨h.1, fun hn => by
  obtain ⟨b, o, e, hne, hc⟩ := h.2 hn
  refine ⟨b, o, e, hne, fun i l hl => ?_⟩
  obtain ⟨Ai, ci, h1, h2, h3⟩ := hc i l hl
  exact ⟨Ai, ci, below_keep hb _ _ h1, h2.below hb, h3⟩⟩
theorem MxF.take {w : World} {g n : Nat} {A : Option Addr} {L : List (List Int)} (h : MxF w g A n L) (k : Nat) (hk : k ≤ n) : MxF w g A k (L.take k) := by
  have hl := h.1
  refine ⟨by rw [List.length_take]; omega, fun h0 => ?_⟩
  obtain ⟨b, o, e, hne, hc⟩ := h.2 (by omega)
  refine ⟨b, o, e, hne, fun i l hi => hc i l ?_⟩
  rw [List.getElem?_take] at hi
  split at hi
  · exact hi
  · cases hi
theorem OwnMx.mxF {w : World} {base n c g : Nat} {A : Option Addr} {L : List (List Int)} {vs : List Value} (h : OwnMx w base A n c L vs) (hg : g < base) : MxF w g A n L := ⟨h.len, fun hn => by
  obtain ⟨b, rfl⟩ := own_at h.row hn
  refine ⟨b, 0, rfl, by have := (h.row.lt b rfl).1; omega, fun i l hl => ?_⟩
  have hi : i < n := by have := (List.getElem?_eq_some_iff.1 hl).1; have := h.len; omega
  have hv : vs[i]? = some (vs[i]'(by have := h.vlen; omega)) := List.getElem?_eq_getElem _
  obtain ⟨Ai, ci, e, ho⟩ := h.rows i _ l hv hl
  rw [e] at hv ho
  refine ⟨Ai, ci, by rw [Nat.zero_add, h.row.cellAt i (by omega)]; exact hv, Rd.of_own ho, fun p hp => ?_⟩
  subst hp
  have := (ho.lt p.block rfl).1
  omega⟩
def Short (L : List (List Int)) : Prop := ∀ l ∈ L, l.length ≤ 5
theorem Short.rows {L : List (List Int)} (h : Short L) : Rows L := fun i l hl => by have := h l (List.mem_of_getElem? hl); omega
theorem Short.take {L : List (List Int)} (h : Short L) (k : Nat) : Short (L.take k) := fun l hl => h l (List.mem_of_mem_take hl)
theorem Mem4.short {L : List (List Int)} (h : Mem4 L) : Short L := fun l hl => by have := (h l hl).1; omega
/-- One row is put in the place of another: it may be a part of a third one. -/
theorem OwnMx.putF {w : World} {base n c g b : Nat} {L : List (List Int)} {vs : List Value} (h : OwnMx w base (some ⟨b, 0, none⟩) n c L vs) (hg : g < base) (j k : Nat) (hj : j < n) (h0 : 0 < n) (l : List Int) (hl : L[0]? = some l) (hk : k ≤ l.length) (A0 : Option Addr) (c0 : Nat)
    (hA : vs[0]? = some (.slice A0 l.length c0)) : MxF (w.setCell ⟨b, j, none⟩ (.slice A0 k c0)) g (some ⟨b, 0, none⟩) n (L.set j (l.take k)) := by
  obtain ⟨Ai, ci, e, ho⟩ := h.rows 0 _ l hA hl
  injection e with e1 _ e2
  subst e1 e2
  have hbb := (h.row.lt b rfl)
  have hkeep : ∀ (v : Value) (i : Nat) (x : List Int) (A' : Option Addr) (c' : Nat), w.ownsRow base 3 1 (.slice A' x.length c') x.length (intCells x) → (w.setCell ⟨b, i, none⟩ v).ownsRow base 3 1 (.slice A' x.length c') x.length (intCells x) := fun v i x A' c' hx =>
    hx.kept (h.row.stored i v).2 (own_type hx h.row (by decide))
  refine ⟨by simpa using h.len, fun _ => ⟨b, 0, rfl, by omega, fun i x hx => ?_⟩⟩
  by_cases hi : i = j
  · subst hi
    rw [List.getElem?_set_self (by have := h.len; omega)] at hx
    injection hx with hx
    subst hx
    have hlen : (l.take k).length = k := by rw [List.length_take]; omega
    rw [hlen]
    have hrow := (h.row.stored i (.slice A0 k c0)).1
    refine ⟨A0, c0, ?_, (Rd.of_own (hkeep _ _ _ _ _ ho)).takeI k hk, fun p hp => ?_⟩
    · rw [Nat.zero_add, hrow.cellAt i (by omega), List.getElem?_set_self (by have := h.vlen; omega)]
    · subst hp
      have := (ho.lt p.block rfl).1
      omega
  · rw [List.getElem?_set_ne (Ne.symm hi)] at hx
    have hin : i < n := by have := (List.getElem?_eq_some_iff.1 hx).1; have := h.len; omega
    have hv : vs[i]? = some (vs[i]'(by have := h.vlen; omega)) := List.getElem?_eq_getElem _
    obtain ⟨Ai, ci, e, hoi⟩ := h.rows i _ x hv hx
    rw [e] at hv hoi
    have hrow := (h.row.stored j (.slice A0 k c0)).1
    refine ⟨Ai, ci, ?_, Rd.of_own (hkeep _ _ _ _ _ hoi), fun p hp => ?_⟩
    · rw [Nat.zero_add, hrow.cellAt i (by omega), List.getElem?_set_ne (Ne.symm hi)]
      exact hv
    · subst hp
      have := (hoi.lt p.block rfl).1
      omega
theorem grown_S {W w w' : World} {g : Nat} {S : Nat → Prop} (h : W.grownBy w (some g)) (hg : GrownS w w' S) (hS : ∀ k, S k → W.heap.size ≤ k) : W.grownBy w' (some g) :=
  ⟨hg.os.trans h.os, hg.tape.trans h.tape, hg.output.trans h.output, Nat.le_trans h.size hg.size, fun k hk hne => (hg.block k (by have := h.size; omega) (fun hs => by have := hS k hs; omega)).trans (h.block k hk hne)⟩
def AnyOut (w : World) (S g : Nat) (e : Ending) (w' : World) : Prop := ∃ (A : Option Addr) (n cc : Nat) (L : List (List Int)), e = .returned (.slice A n cc) ∧ n ≤ 3 ∧ Short L ∧ MxF w' g A n L ∧ Cur w' S g ∧ w.grownBy w' (some g)
theorem l04Any_c (S g : Nat) (w : World) (hc : Cur w S g) (hsg : S ≤ g) : Calls Try.prog 71 #[.pointer (some ⟨g, 0, none⟩)] w (AnyOut w S g) := by
  have hlt := hc.lt
  go_enter Try.func71, Try.ntmps71
  go_wp2_with fail
  refine (l04Mem_c S g 3 w hc hsg (by omega)).mono ?_
  rintro e w1 ⟨A, cc, L, vs, rfl, h4, O1, hc1, g1⟩
  have H4 := Lib.hid h4
  clear h4 hc
  obtain ⟨gm, rfl⟩ := own_at O1.row (by omega)
  have hgm := O1.row.lt gm rfl
  have hcap := own_cap O1.row
  go_wp2_with fail
  refine (l01Below_c _ _ 8 _ hc1 (by omega)).mono ?_
  rintro e w2 ⟨x, rfl, x0, x1, hc2, g2⟩
  clear x0 x1
  have O2 := O1.cur hc1 g2
  have G2 := Lib.hid (grown_trans g1 g2)
  have hs1 := g1.size
  have hs2 := g2.size
  have C2 := Lib.hid hc2
  clear O1 hc1 hc2 g1 g2
  by_cases hx0 : x = 0
  · subst hx0
    have hD := (Below.refl w2.heap.size w2).drew
    have OD := O2.kept hD
    have CD := Lib.hid (C2.out.below hD)
    have GD := Lib.hid (grown_below G2.out hD)
    have hlL := OD.len
    have hvl := OD.vlen
    have hl0 : L[0]? = some (L[0]'(by omega)) := List.getElem?_eq_getElem _
    have h40 := (H4.out _ (List.mem_of_getElem? hl0)).1
    have hv0 : vs[0]? = some (vs[0]'(by omega)) := List.getElem?_eq_getElem _
    obtain ⟨A0, c0, ev, ho0⟩ := OD.rows 0 _ _ hv0 hl0
    rw [ev] at hv0 ho0
    have hv0' := hv0
    rw [h40] at ho0 hv0'
    obtain ⟨g0, rfl⟩ := own_at ho0 (by omega)
    have hc0 := own_cap ho0
    have d0 : w2.drew.cell? ⟨gm, 0, none⟩ = some (.slice (some ⟨g0, 0, none⟩) 4 c0) := (OD.row.cellAt 0 (by omega)).trans hv0'
    have HO := Lib.hid OD
    have V0 := Lib.hid hv0
    have V0' := Lib.hid hv0'
    have HL0 := Lib.hid hl0
    have hsD : w2.drew.heap.size = w2.heap.size := rfl
    have F0 : ∀ (w4 : World) (j k : Nat), OwnMx w4 w.heap.size (some ⟨gm, 0, none⟩) 3 cc L vs → Cur w4 S g → w.grownBy w4 (some g) → j < 3 → k < 4 →
        w4.cell? ⟨gm, 0, none⟩ = some (.slice (some ⟨g0, 0, none⟩) 4 c0) ∧ w4.frozen? ⟨gm, j, none⟩ = false ∧ (∃ y, w4.cell? ⟨gm, j, none⟩ = some y) ∧ Hid (MxF (w4.setCell ⟨gm, j, none⟩ (.slice (some ⟨g0, 0, none⟩) k c0)) g (some ⟨gm, 0, none⟩) 3 (L.set j ((L[0]'(by omega)).take k))) ∧ Hid (Cur (w4.setCell ⟨gm, j, none⟩ (.slice (some ⟨g0, 0, none⟩) k c0)) S g) ∧ Hid (w.grownBy (w4.setCell ⟨gm, j, none⟩ (.slice (some ⟨g0, 0, none⟩) k c0)) (some g)) ∧ k ≤ c0 := by
      intro w4 j k O4 hc4 G4 hj hk
      exact ⟨(O4.row.cellAt 0 (by omega)).trans hv0', O4.row.frozenAt j, ⟨_, (O4.row.cellAt j (by omega)).trans (List.getElem?_eq_getElem (by omega))⟩, Lib.hid (O4.putF (g := g) (by omega) j k (by omega) (by omega) _ hl0 (by omega) _ _ hv0), Lib.hid (hc4.box (by omega) (by omega)), Lib.hid (grown_box G4 (by omega)), by omega⟩
    have F := Lib.hid F0
    clear F0
    clear O2 OD C2 G2 hD ho0 ev hv0 hv0' hl0
    go_wp2_with fail
    go_region_with (go_at_call 69; first
      | ((with_reducible refine (l01Below_c S g 3 _ CD.out (by omega)).mono ?_); rintro e w3 ⟨j, rfl, j0, j1, hc3, g3⟩; rw [if_pos (by omega)] at j1; obtain ⟨j, rfl⟩ := Int.eq_ofNat_of_zero_le j0; have hj3 : j < 3 := Int.ofNat_lt.1 (Int.lt_of_le_of_lt j1 (by decide)); have O3 := Lib.hid (HO.out.cur CD.out g3); have d3 : w3.cell? ⟨gm, 0, none⟩ = some (.slice (some ⟨g0, 0, none⟩) 4 c0) := (O3.out.row.cellAt 0 (by omega)).trans V0'.out; have G3 := Lib.hid (grown_trans GD.out g3); have C3 := Lib.hid hc3; have hs3 := g3.size; clear g3 hc3 j0)
      | ((with_reducible refine (l01Below_c S g 4 _ C3.out (by omega)).mono ?_); rintro e w4 ⟨k, rfl, k0, k1, hc4, g4⟩; rw [if_pos (by omega)] at k1; obtain ⟨k, rfl⟩ := Int.eq_ofNat_of_zero_le k0; have hk4 : k < 4 := Int.ofNat_lt.1 (Int.lt_of_le_of_lt k1 (by decide)); obtain ⟨d4, hz, ⟨y, hy⟩, hP, C5, G5, hkc⟩ := F.out w4 j k (O3.out.cur C3.out g4) hc4 (grown_trans G3.out g4) hj3 hk4; clear g4 hc4 k0))
    all_goals
      have hS : Hid (Short (L.set j ((L[0]'(by omega)).take k))) := Lib.hid fun l hl => by
        rcases List.mem_or_eq_of_mem_set hl with h | h
        · exact H4.out.short l h
        · subst h; rw [List.length_take]; omega
      clear O3 G3 C3 CD GD HO V0 V0' HL0 d0 d3 d4
      go_wp2
      go_ret
      exact ⟨_, 3, cc, _, rfl, by omega, hS.out, hP.out, C5.out, G5.out⟩
  · have hx0' : (x == 0) = false := by simp [hx0]
    by_cases hx1 : x = 1
    · subst hx1
      have hlt2 := C2.out.lt
      have hlit := World.ownsRow_lit (base := w2.heap.size) (e := 3) (size := 1) w2 #[.int .i64 (-1), .int .i64 100] 2 (Nat.le_refl _) (by unfold maxLen; omega) (by simp)
      have hbl := ((Below.refl w2.heap.size w2).alloc (Nat.le_refl _) (.cells #[.int .i64 (-1), .int .i64 100] 3)).drew
      have HR : Hid (Rd (w2.alloc (.cells #[.int .i64 (-1), .int .i64 100] 3)).drew 1 (some ⟨w2.heap.size, 0, none⟩) 2 (intCells [-1, 100])) := Lib.hid (Rd.of_own hlit)
      have OD : OwnMx w2.drew w.heap.size (some ⟨gm, 0, none⟩) 3 cc L vs := O2.kept (Below.refl w2.heap.size w2).drew
      have O3 := Lib.hid (O2.kept hbl)
      have C3 := Lib.hid (C2.out.below hbl)
      have G3 := Lib.hid (grown_below G2.out hbl)
      have hlL := OD.len
      have hl1 : L[1]? = some (L[1]'(by omega)) := List.getElem?_eq_getElem _
      have h41 := (H4.out _ (List.mem_of_getElem? hl1)).1
      have HL1 := Lib.hid hl1
      obtain ⟨gm', gr, ci, y, e1, hgr, d1, d2, z2, hset⟩ := OD.cellSet 1 2 _ hl1 (by omega)
      injection e1 with e1
      injection e1 with e1
      subst e1
      rw [h41] at d1
      have d1' := below_keep hbl _ _ (show w2.cell? _ = _ from d1)
      clear hlit hbl O2 OD C2 G2 hset d2 z2 hl1
      go_wp2_with fail
      go_region_with (go_at_call 70; (with_reducible refine (l01PickInt_c S g (some ⟨w2.heap.size, 0, none⟩) 2 2 [-1, 100] _ C3.out HR.out (by omega) (by omega) (by intro b o e; injection e with e; injection e with e; omega)).mono ?_); rintro e w4 ⟨v, rfl, hr, hc4, g4⟩; clear hr; have O4 := O3.out.cur C3.out g4; have G4 := grown_trans G3.out g4; obtain ⟨gm2, gr2, ci2, y2, e2, hgr2, q1, q2, q3, hset⟩ := O4.cellSet 1 2 _ HL1.out (by omega); injection e2 with e2; injection e2 with e2; subst e2; obtain ⟨O5, g5⟩ := hset v; rw [h41] at q1; have hsame := q1.symm.trans ((World.cell?_of_block (w := (w2.alloc (.cells #[.int .i64 (-1), .int .i64 100] 3)).drew) (g4.block gm (by simp; omega) (by intro e; injection e with e; omega))).trans d1'); injection hsame with hsame; injection hsame with hs1 _ hs2; injection hs1 with hs1; injection hs1 with hs1; subst hs1 hs2; have hP := Lib.hid (O5.mxF (g := g) (by omega)); have G5 := Lib.hid (grown_S G4 g5 (fun k hk => by have := (O4.inRows_lt hk).1; omega)); have C5 := Lib.hid (hc4.box (i := 2) (v := .int .i64 v) (b := gr2) (by omega) (by omega)); clear O4 O5 g5 G4 hc4 g4 hset)
      all_goals
        have hS : Hid (Short (L.set 1 ((L[1]'(by omega)).set 2 v))) := Lib.hid fun l hl => by
          rcases List.mem_or_eq_of_mem_set hl with h | h
          · exact H4.out.short l h
          · subst h; rw [List.length_set]; omega
        clear O3 C3 G3 HL1 HR
        go_wp2
        go_ret
        exact ⟨_, 3, cc, _, rfl, by omega, hS.out, hP.out, C5.out, G5.out⟩
    · have hx1' : (x == 1) = false := by simp [hx1]
      by_cases hx2 : x = 2
      · subst hx2
        have HO := Lib.hid O2
        clear O2
        go_wp2_with fail
        refine (l01Below_c _ _ 3 _ C2.out (by omega)).mono ?_
        rintro e w3 ⟨k, rfl, k0, k1, hc3, g3⟩
        rw [if_pos (by omega)] at k1
        obtain ⟨k, rfl⟩ := Int.eq_ofNat_of_zero_le k0
        have hP := Lib.hid (((HO.out.cur C2.out g3).mxF (g := g) (by omega)).take k (by omega))
        have hkc : k ≤ cc := by omega
        have hkn : (k : Int) ≤ 9223372036854775807 := by omega
        have G3 := Lib.hid (grown_trans G2.out g3)
        have C3 := Lib.hid hc3
        clear g3 HO C2 G2 hc3
        go_wp2
        go_ret
        exact ⟨_, k, _, _, rfl, by omega, H4.out.short.take k, hP.out, C3.out, G3.out⟩
      · have hx2' : (x == 2) = false := by simp [hx2]
        have hP := Lib.hid (O2.mxF (g := g) (by omega))
        clear O2
        go_wp2
        go_ret
        exact ⟨_, 3, cc, L, rfl, Nat.le_refl _, H4.out.short, hP.out, C2.out, G2.out⟩
def CellsOut (w : World) (S g : Nat) (e : Ending) (w' : World) : Prop := ∃ (A : Option Addr) (n cc : Nat) (l : List Int), e = .returned (.slice A n cc) ∧ n ≤ 5 ∧ Rd w' 1 A n (intCells l) ∧ (∀ p, A = some p → p.block ≠ g) ∧ Cur w' S g ∧ w.grownBy w' (some g)
theorem l04Cells_c (S g : Nat) (w : World) (hc : Cur w S g) (hsg : S ≤ g) : Calls Try.prog 73 #[.pointer (some ⟨g, 0, none⟩)] w (CellsOut w S g) := by
  obtain ⟨i0, hi, hz0, hz1, hz2⟩ := info_parts info_int'
  have hlt := hc.lt
  go_enter Try.func73, Try.ntmps73
  go_wp2_with fail
  refine (l04Page_c S g w hc hsg).mono ?_
  rintro e w1 ⟨A, cc, l, rfl, hl4, hlr, O1, hc1, g1⟩
  clear hlr hc
  obtain ⟨gm, rfl⟩ := own_at O1 (by omega)
  have hgm := O1.lt gm rfl
  have hcap := own_cap O1
  go_wp2_with fail
  refine (l01Below_c _ _ 6 _ hc1 (by omega)).mono ?_
  rintro e w2 ⟨x, rfl, x0, x1, hc2, g2⟩
  clear x0 x1
  have O2 := Lib.hid (own_cur O1 hc1 (by decide) g2)
  have G2 := Lib.hid (grown_trans g1 g2)
  have hs1 := g1.size
  have hs2 := g2.size
  have C2 := Lib.hid hc2
  clear O1 hc1 hc2 g1 g2
  by_cases hx0 : x = 0
  · subst hx0
    go_wp2_with fail
    refine (l01Below_c _ _ 4 _ C2.out (by omega)).mono ?_
    rintro e w3 ⟨k, rfl, k0, k1, hc3, g3⟩
    rw [if_pos (by omega)] at k1
    obtain ⟨k, rfl⟩ := Int.eq_ofNat_of_zero_le k0
    have R3 := Lib.hid ((Rd.of_own (own_cur O2.out C2.out (by decide) g3)).takeI k (by omega))
    have hkc : k ≤ cc := by omega
    have hkn : (k : Int) ≤ 9223372036854775807 := by omega
    have G3 := Lib.hid (grown_trans G2.out g3)
    have C3 := Lib.hid hc3
    clear g3 O2 C2 G2 hc3
    go_wp2
    go_ret
    exact ⟨_, k, _, _, rfl, by omega, R3.out, (by intro p hp; injection hp with hp; subst hp; show gm ≠ g; omega), C3.out, G3.out⟩
  · have hx0' : (x == 0) = false := by simp [hx0]
    by_cases hx1 : x = 1
    · subst hx1
      go_wp2_with fail
      refine (l01Below_c _ _ 4 _ C2.out (by omega)).mono ?_
      rintro e w3 ⟨k, rfl, k0, k1, hc3, g3⟩
      rw [if_pos (by omega)] at k1
      obtain ⟨k, rfl⟩ := Int.eq_ofNat_of_zero_le k0
      have O3 := own_cur O2.out C2.out (by decide) g3
      have G3 := grown_trans G2.out g3
      have hlt3 := hc3.lt
      have hs3 := g3.size
      have hlit := World.ownsRow_lit (base := w3.heap.size) (e := 3) (size := 1) w3 #[.int .i64 (-1), .int .i64 99, .int .i64 100] 3 (Nat.le_refl _) (by unfold maxLen; omega) (by simp)
      have hbl := (Below.refl w3.heap.size w3).alloc (Nat.le_refl _) (.cells #[.int .i64 (-1), .int .i64 99, .int .i64 100] 3)
      have HR := Lib.hid (Rd.of_own hlit)
      have O4 := Lib.hid (own_kept O3 hbl)
      have C4 := Lib.hid (hc3.below hbl)
      have G4 := Lib.hid (grown_below G3 hbl)
      clear hlit hbl O3 hc3 G3 O2 C2 G2 g3
      go_wp2_with fail
      refine (l01PickInt_c S g (some ⟨w3.heap.size, 0, none⟩) 3 3 [-1, 99, 100] _ C4.out HR.out (by omega) (by omega) (by intro b o e; injection e with e; injection e with e; omega)).mono ?_
      rintro e w5 ⟨v, rfl, hr, hc5, g5⟩
      clear hr
      have O5 := own_cur O4.out C4.out (by decide) g5
      have G5 := grown_trans G4.out g5
      obtain ⟨y, hy, d0, z0⟩ := own_int_at O5 k (by omega)
      have hset := own_int_set O5 k v
      have R6 := Lib.hid (Rd.of_own hset.1)
      have C6 := Lib.hid (hc5.box (i := k) (v := .int .i64 v) (b := gm) (by omega) (by omega))
      have G6 := Lib.hid (grown_box (i := k) (v := .int .i64 v) (b := gm) G5 (by omega))
      have hk4 : k < 4 := by omega
      clear O4 C4 G4 O5 G5 hset hy hc5 g5 HR
      go_wp2
      go_ret
      exact ⟨_, 4, cc, _, rfl, by omega, R6.out, (by intro p hp; injection hp with hp; subst hp; show gm ≠ g; omega), C6.out, G6.out⟩
    · have hx1' : (x == 1) = false := by simp [hx1]
      by_cases hx2 : x = 2
      · subst hx2
        go_wp2_with (at_builtin; refine wpList_append_own _ rfl _ _ 22 rfl w.heap.size 3 i0 (.int .i64 0) 1 8 Try.underlying22 hi hz0 hz1 hz2 rfl (by decide) (.slice (some ⟨gm, 0, none⟩) 4 cc) 4 (intCells l) rfl (O2.out.alloc _) ⟨w2.heap.size, 0, none⟩ 1 1 [.int .i64 1] rfl rfl (new_one w2 #[.int .i64 1] _) ?c2 ?c3 ?c4 ?c5 ?_)
        case c2 => first | rfl | (intro u hu; simp at hu; subst hu; rfl)
        case c3 => unfold maxLen; omega
        case c4 => omega
        case c5 => simp; omega
        intro v' w3 hown3 hgr3 _
        have G3 := grown_own (grown_alloc G2.out _) (O2.out.alloc _) (Nat.le_refl _) hgr3
        have C3 := (C2.out.below ((Below.refl _ _).alloc (Nat.le_refl _) (.cells #[.int .i64 1] 3))).own (O2.out.alloc _) (by decide) (by omega) hgr3
        obtain ⟨G', cc', rfl⟩ := own_shape hown3
        have hne : ∀ p, G' = some p → p.block ≠ g := fun p hp => by
          subst hp
          have := (hown3.lt p.block rfl).1
          omega
        have hR : Hid (Rd w3 1 G' 5 (intCells (l ++ [1]))) := Lib.hid (by simpa [intCells] using Rd.of_own hown3)
        clear hown3 hgr3 O2 C2 G2
        go_wp2
        go_ret
        exact ⟨_, 5, _, _, rfl, by omega, hR.out, hne, C3, G3⟩
      · have hx2' : (x == 2) = false := by simp [hx2]
        have hR := Lib.hid (Rd.of_own O2.out)
        clear O2
        go_wp2
        go_ret
        exact ⟨_, 4, cc, l, rfl, by omega, hR.out, (by intro p hp; injection hp with hp; subst hp; show gm ≠ g; omega), C2.out, G2.out⟩
end Go.Proofs.Ytjgphiialfhdlaa
