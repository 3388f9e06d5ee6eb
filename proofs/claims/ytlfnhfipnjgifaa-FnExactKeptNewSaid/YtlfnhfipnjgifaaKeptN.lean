/- Contracts of KeptNew. No condition. -/
import Derived.Test.YtlfnhfipnjgifaaKept
import Derived.Test.YtlfnhfipnjgifaaRep
import Derived.Deep.RegionWith
namespace Go.Proofs.Ytlfnhfipnjgifaa
open Go.RowKit
set_option linter.unusedVariables false
set_option linter.unusedSimpArgs false
set_option maxHeartbeats 1000000

theorem bool_cells_zero (n : Nat) : (madeCells (Value.bool false).cells (n * 1)).toList = boolCells (List.replicate n false) := by
  rw [show (Value.bool false).cells = #[.bool false] from rfl, Nat.mul_one, toList_madeCells_one]
  simp [boolCells]
theorem sKeptNew_k {n : Int} {k : Nat} (hk : brought n 0 24 = k) (hk24 : k ≤ 24) (w : World) : Calls Try.prog 20 #[.int .i64 n] w (MadeK w k k (List.replicate k false) (List.replicate k noSlot)) := by
  obtain ⟨i0, hi, hz0, hz1, hz2⟩ := info_parts info_bool'
  have HK := Lib.hid hk
  clear hk
  have R0 := Lib.hid (KBox.new w 29 (.slice none 0 0) (.slice none 0 0))
  have h0 : Below w.heap.size w (w.alloc (.cells #[.slice none 0 0, .slice none 0 0] 29)) := (Below.refl _ _).alloc (Nat.le_refl _) _
  go_enter Try.func20, Try.ntmps20
  go_wp2_with fail
  refine (sTableNew_k HK.out _).mono ?_
  rintro e w1 ⟨A, c, rfl, own1, hb1⟩
  have R1 := Lib.hid (R0.out.below hb1)
  have h1 := Lib.hid (h0.trans (hb1.mono h0.size))
  have O1 := Lib.hid own1
  have hs0 := h0.size
  have hs1 := hb1.size
  clear R0 h0 hb1 own1
  go_wp2_with (at_make; refine wpList_make_full _ rfl _ _ 27 rfl w1.heap.size 4 i0 (.bool false) 1 Try.underlying27 hi hz0 hz1 .i64 .i64 k k k rfl rfl rfl rfl (by rw [hz2]; omega) (by simp only [maxLen]; omega) (Nat.le_refl _) ?_; intro w2 hown hgr; refine Hid.out ?_)
  refine Lib.hid ?_
  rw [bool_cells_zero] at hown
  have hb2 : Below w1.heap.size w1 w2 := (Below.refl _ _).grown hgr (Nat.le_refl _) (fun k hk => by cases hk)
  have R2 := R1.out.below hb2
  have h2 := h1.out.trans (hb2.mono h1.out.size)
  have O2 := own_kept O1.out hb2
  have hlt := R1.out.lt
  have d0 := R2.c0
  have d1 := R2.c1
  have z0 := R2.z 0
  have z1 := R2.z 1
  have q1 := Lib.hid (own_setCell (b := w.heap.size) (i := 1) (u := .slice A k c) (own_setCell (b := w.heap.size) (i := 0) (u := .slice (some ⟨w1.heap.size, 0, none⟩) k k) hown (by omega)) (by omega))
  have q2 := Lib.hid (own_setCell (b := w.heap.size) (i := 1) (u := .slice A k c) (own_setCell (b := w.heap.size) (i := 0) (u := .slice (some ⟨w1.heap.size, 0, none⟩) k k) O2 (by simp)) (by simp))
  have q3 := Lib.hid ((h2.setCell (p := ⟨w.heap.size, 0, none⟩) (Nat.le_refl _) (.slice (some ⟨w1.heap.size, 0, none⟩) k k)).setCell (p := ⟨w.heap.size, 1, none⟩) (Nat.le_refl _) (.slice A k c))
  clear hown hgr hb2 R2 h2 O2 R1 h1 O1
  simp only [World.size_alloc] at hs0 q2
  go_wp2
  exact bodyPost_ret (v := .agg #[.slice (some ⟨w1.heap.size, 0, none⟩) k k, .slice A k c]) (by simp [results, Try.results20, go_sem, d0, d1]) rfl ⟨_, _, _, _, rfl, own_base q1.out (by omega), own_base q2.out (by omega), q3.out⟩
set_option maxRecDepth 20000 in
set_option maxHeartbeats 4000000 in
theorem iKeptNew_k {n : Int} {k : Nat} (hk : brought n 0 24 = k) (hk24 : k ≤ 24) (w : World) : Calls Try.prog 21 #[.int .i64 n] w (MadeK w k k (List.replicate k false) (List.replicate k noSlot)) := by
  obtain ⟨i0, hi, hz0, hz1, hz2⟩ := info_parts info_bool'
  have HK := Lib.hid hk
  clear hk
  have hex : ∀ W : World, ∃ w' : World, (Instr.makeSlice 27 (.int .i64 k) (.int .i64 k)).run Try.prog W = .ok (.slice (some ⟨W.heap.size, 0, none⟩) k k) w' ∧ w'.ownsRow W.heap.size 4 1 (.slice (some ⟨W.heap.size, 0, none⟩) k k) k (boolCells (List.replicate k false)) ∧ W.grownBy w' none := fun W => by
    obtain ⟨w', h1, h2, h3⟩ := run_make_full (P := Try.prog) W W.heap.size 27 4 i0 (.bool false) 1 Try.underlying27 hi hz0 hz1 .i64 .i64 k (by rw [hz2]; omega) (by simp only [maxLen]; omega) (Nat.le_refl _)
    rw [bool_cells_zero] at h2
    exact ⟨w', h1, h2, h3⟩
  obtain ⟨mk, hmk⟩ := Classical.axiomOfChoice hex
  have hrun := fun W => (hmk W).1
  have hown := Lib.hid fun W => (hmk W).2.1
  have hgrow := Lib.hid fun W => (hmk W).2.2
  clear hex hmk
  have R0 := Lib.hid (KBox.new w 29 (.slice none 0 0) (.slice none 0 0))
  have h0 : Below w.heap.size w (w.alloc (.cells #[.slice none 0 0, .slice none 0 0] 29)) := (Below.refl _ _).alloc (Nat.le_refl _) _
  have hs0 : (w.alloc (.cells #[.slice none 0 0, .slice none 0 0] 29)).heap.size = w.heap.size + 1 := by simp
  go_enter Try.func21, Try.ntmps21
  go_wp2_with fail
  have gb : ∀ W W' : World, W.grownBy W' none → Below W.heap.size W W' := fun W W' hg => (Below.refl _ _).grown hg (Nat.le_refl _) (fun k hk => by cases hk)
  generalize hW0 : w.alloc (.cells #[.slice none 0 0, .slice none 0 0] 29) = W0 at R0 h0 hs0 ⊢
  have RA : KBox W0.drew w.heap.size 29 (.slice none 0 0) (.slice none 0 0) := R0.out
  have BA : Below w.heap.size w W0.drew := h0.drew
  have GA := gb _ _ (hgrow.out W0.drew)
  have RB := RA.below GA
  have BB := BA.trans (GA.mono BA.size)
  have SA : W0.drew.heap.size = w.heap.size + 1 := hs0
  have SB : w.heap.size + 1 ≤ (mk W0.drew).heap.size := by have := GA.size; omega
  have SC : w.heap.size + 1 ≤ W0.drew.heap.size := by omega
  have OB : (mk W0.drew).ownsRow (w.heap.size + 1) 4 1 (.slice (some ⟨w.heap.size + 1, 0, none⟩) k k) k (boolCells (List.replicate k false)) := by have h := hown.out W0.drew; rwa [SA] at h
  clear R0 h0 hW0
  go_region_with (first | (go_at_call 97; refine (iBrought_c _ _ _ _).mono ?_; rintro e w1 ⟨rfl, rfl⟩; rw [HK.out]) | (go_at_call 16; refine (iTableNew_k HK.out _).mono ?_; rintro e w3 ⟨A, c, rfl, own3, hb3⟩; have R3 : KBox w3 w.heap.size 29 (.slice none 0 0) (.slice none 0 0) := KBox.below (by assumption) hb3; have d0 := R3.c0; have d1 := R3.c1; have z0 := R3.z 0; have z1 := R3.z 1; have R4 := KBox.below R3 (gb _ _ (hgrow.out w3)); have e0 := R4.c0; have e1 := R4.c1; have y0 := R4.z 0; have y1 := R4.z 1))
  · have hb5 := hb3
    have OB2 := own_kept OB hb3
    have OS2 := own_base (b2 := w.heap.size + 1) own3 SB
    have BW := BB.trans (hb3.mono BB.size)
    have q1 := Lib.hid (own_setCell (b := w.heap.size) (i := 1) (u := .slice A k c) (own_setCell (b := w.heap.size) (i := 0) (u := .slice (some ⟨w.heap.size + 1, 0, none⟩) k k) OB2 (by omega)) (by omega))
    have q2 := Lib.hid (own_setCell (b := w.heap.size) (i := 1) (u := .slice A k c) (own_setCell (b := w.heap.size) (i := 0) (u := .slice (some ⟨w.heap.size + 1, 0, none⟩) k k) OS2 (by omega)) (by omega))
    have q3 := Lib.hid ((BW.setCell (p := ⟨w.heap.size, 0, none⟩) (Nat.le_refl _) (.slice (some ⟨w.heap.size + 1, 0, none⟩) k k)).setCell (p := ⟨w.heap.size, 1, none⟩) (Nat.le_refl _) (.slice A k c))
    go_wp2
    exact bodyPost_ret (v := .agg #[.slice (some ⟨w.heap.size + 1, 0, none⟩) k k, .slice A k c]) (by simp [results, Try.results21, go_sem, d0, d1]) rfl ⟨_, _, _, _, rfl, own_base q1.out (by omega), own_base q2.out (by omega), q3.out⟩
  · have hb5 := hb3
    have OB2 := own_base (b2 := w.heap.size + 1) (hown.out w3) (by have := hb3.size; omega)
    have OS2 := own_base (b2 := w.heap.size + 1) (own_kept own3 (gb _ _ (hgrow.out w3))) SC
    have BW := (BA.trans (hb3.mono BA.size)).trans ((gb _ _ (hgrow.out w3)).mono (BA.trans (hb3.mono BA.size)).size)
    have q1 := Lib.hid (own_setCell (b := w.heap.size) (i := 1) (u := .slice A k c) (own_setCell (b := w.heap.size) (i := 0) (u := .slice (some ⟨w3.heap.size, 0, none⟩) k k) OB2 (by omega)) (by omega))
    have q2 := Lib.hid (own_setCell (b := w.heap.size) (i := 1) (u := .slice A k c) (own_setCell (b := w.heap.size) (i := 0) (u := .slice (some ⟨w3.heap.size, 0, none⟩) k k) OS2 (by omega)) (by omega))
    have q3 := Lib.hid ((BW.setCell (p := ⟨w.heap.size, 0, none⟩) (Nat.le_refl _) (.slice (some ⟨w3.heap.size, 0, none⟩) k k)).setCell (p := ⟨w.heap.size, 1, none⟩) (Nat.le_refl _) (.slice A k c))
    go_wp2
    exact bodyPost_ret (v := .agg #[.slice (some ⟨w3.heap.size, 0, none⟩) k k, .slice A k c]) (by simp [results, Try.results21, go_sem, e0, e1]) rfl ⟨_, _, _, _, rfl, own_base q1.out (by omega), own_base q2.out (by omega), q3.out⟩
end Go.Proofs.Ytlfnhfipnjgifaa
