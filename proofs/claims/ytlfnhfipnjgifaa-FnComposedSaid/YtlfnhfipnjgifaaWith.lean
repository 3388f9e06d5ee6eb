/- Contracts of table functions: copyTable, WithSlot. The tables hold at most 1048576 slots. -/
import Derived.Test.YtlfnhfipnjgifaaTab
namespace Go.Proofs.Ytlfnhfipnjgifaa
open Go.RowKit
set_option linter.unusedVariables false
set_option maxHeartbeats 1000000

theorem copyTable_c (A : Option Addr) (n c : Nat) (l : List Sl) (w : World) (ha : Rd w 2 A n (slotCells l)) (hn : n ≤ 1048576) :
    Calls Try.prog 108 #[.slice A n c] w (Made w 41 2 n (slotCells l)) := by
  obtain ⟨i0, hi, hz0, hz1, hz2⟩ := info_parts info_Slot
  have hown0 := World.ownsRow_lit (base := w.heap.size) (e := 41) (size := 2) w #[] 0 (Nat.le_refl _) (by simp) (by simp)
  have hbel0 : Below w.heap.size w (w.alloc (.cells #[] 41)) := (Below.refl _ _).alloc (Nat.le_refl _) _
  go_enter Try.func108, Try.ntmps108
  go_wp2_with (at_builtin; refine wpList_append_rd _ rfl _ _ 22 rfl w.heap.size 41 i0 (.agg #[.int .i64 0, .int .i64 0]) 2 16 Try.underlying22 hi hz0 hz1 hz2 rfl (by decide) (.slice (some ⟨w.heap.size, 0, none⟩) 0 0) 0 [] rfl hown0 A n c (slotCells l) rfl (ha.below hbel0) (slotCells_one l) (by unfold maxLen; omega) (by omega) (by simp) ?_; intro v1 w1 hown1 hgr1)
  have hbel1 := below_grown hbel0 hown0 (Nat.le_refl _) hgr1
  simp only [Nat.zero_add, List.nil_append] at hown1
  go_ret
  exact Made.mk rfl hown1 hbel1
theorem sWithSlot_1 (page : Int) (A : Option Addr) (n c : Nat) (l : List Sl) (p r : Int) (w : World) (ha : Rd w 2 A n (slotCells l)) (hn : n ≤ 1048576) (h0 : hasB page n = false) :
    Calls Try.prog 78 #[.slice A n c, .int .i64 page, .agg #[.int .i64 p, .int .i64 r]] w (Made w 41 2 n (slotCells l)) := by
  have H0 := Lib.hid h0
  clear h0
  obtain ⟨i0, hi, hz0, hz1, hz2⟩ := info_parts info_Slot
  have hbel0 : Below w.heap.size w (w.alloc (Obj.cells #[Value.int IntKind.i64 p, Value.int IntKind.i64 r] 41)) := (Below.refl _ _).alloc (Nat.le_refl _) _
  have hown0 := World.ownsRow_lit (base := w.heap.size) (e := 41) (size := 2) (w.alloc (Obj.cells #[Value.int IntKind.i64 p, Value.int IntKind.i64 r] 41)) #[] 0 (by simp) (by simp) (by simp)
  have hbel1 := hbel0.alloc (by simp) (.cells #[] 41)
  simp only [World.size_alloc] at hown0
  go_enter Try.func78, Try.ntmps78
  go_wp2_with (first | (at_builtin; refine wpList_append_rd _ rfl _ _ 22 rfl w.heap.size 41 i0 (.agg #[.int .i64 0, .int .i64 0]) 2 16 Try.underlying22 hi hz0 hz1 hz2 rfl (by decide) (.slice (some ⟨w.heap.size + 1, 0, none⟩) 0 0) 0 [] rfl hown0 A n c (slotCells l) rfl (ha.below hbel1) (slotCells_one l) (by unfold maxLen; omega) (by omega) (by simp; omega) ?_; intro v1 w1 hown1 hgr1) | fail)
  have hbel2 : Below w.heap.size w w1 := below_grown hbel1 hown0 (Nat.le_refl _) hgr1
  simp only [Nat.zero_add, List.nil_append] at hown1
  have d0 : w1.cell? ⟨w.heap.size, 0, none⟩ = some (.int .i64 p) := (World.cell?_of_block (hgr1.block _ (by simp; omega) (by simp [Value.ownBlock]))).trans ((cel_alloc _ _ (by simp)).trans (by simp [go_sem]))
  have d1 : w1.cell? ⟨w.heap.size, 1, none⟩ = some (.int .i64 r) := (World.cell?_of_block (hgr1.block _ (by simp; omega) (by simp [Value.ownBlock]))).trans ((cel_alloc _ _ (by simp)).trans (by simp [go_sem]))
  obtain ⟨G, cc, rfl⟩ := own_shape hown1
  clear d0 d1
  go_wp2_with fail
  refine (l01In_v (v := false) (by rw [inB_has]; exact H0.out) _).mono ?_
  rintro e w2 ⟨rfl, rfl⟩
  go_wp2
  go_ret
  exact Made.mk rfl hown1 hbel2
theorem sWithSlot_2 (k : Nat) (A : Option Addr) (n c : Nat) (l : List Sl) (p r : Int) (w : World) (ha : Rd w 2 A n (slotCells l)) (hn : n ≤ 1048576) (hk : k < n) :
    Calls Try.prog 78 #[.slice A n c, .int .i64 (k : Int), .agg #[.int .i64 p, .int .i64 r]] w (Made w 41 2 n (slotCells (l.set k (p, r)))) := by
  have h0 : hasB (k : Int) n = true := by simp [hasB]; omega
  have H0 := Lib.hid h0
  clear h0
  obtain ⟨i0, hi, hz0, hz1, hz2⟩ := info_parts info_Slot
  have hbel0 : Below w.heap.size w (w.alloc (Obj.cells #[Value.int IntKind.i64 p, Value.int IntKind.i64 r] 41)) := (Below.refl _ _).alloc (Nat.le_refl _) _
  have hown0 := World.ownsRow_lit (base := w.heap.size) (e := 41) (size := 2) (w.alloc (Obj.cells #[Value.int IntKind.i64 p, Value.int IntKind.i64 r] 41)) #[] 0 (by simp) (by simp) (by simp)
  have hbel1 := hbel0.alloc (by simp) (.cells #[] 41)
  simp only [World.size_alloc] at hown0
  go_enter Try.func78, Try.ntmps78
  go_wp2_with (first | (at_builtin; refine wpList_append_rd _ rfl _ _ 22 rfl w.heap.size 41 i0 (.agg #[.int .i64 0, .int .i64 0]) 2 16 Try.underlying22 hi hz0 hz1 hz2 rfl (by decide) (.slice (some ⟨w.heap.size + 1, 0, none⟩) 0 0) 0 [] rfl hown0 A n c (slotCells l) rfl (ha.below hbel1) (slotCells_one l) (by unfold maxLen; omega) (by omega) (by simp; omega) ?_; intro v1 w1 hown1 hgr1) | fail)
  have hbel2 : Below w.heap.size w w1 := below_grown hbel1 hown0 (Nat.le_refl _) hgr1
  simp only [Nat.zero_add, List.nil_append] at hown1
  have d0 : w1.cell? ⟨w.heap.size, 0, none⟩ = some (.int .i64 p) := (World.cell?_of_block (hgr1.block _ (by simp; omega) (by simp [Value.ownBlock]))).trans ((cel_alloc _ _ (by simp)).trans (by simp [go_sem]))
  have d1 : w1.cell? ⟨w.heap.size, 1, none⟩ = some (.int .i64 r) := (World.cell?_of_block (hgr1.block _ (by simp; omega) (by simp [Value.ownBlock]))).trans ((cel_alloc _ _ (by simp)).trans (by simp [go_sem]))
  obtain ⟨G, cc, rfl⟩ := own_shape hown1
  obtain ⟨g, rfl⟩ := own_at hown1 (by omega)
  obtain ⟨p', q', -, e0, e1, z0, z1⟩ := own_slot_at hown1 k hk
  have hS := own_slot_set hown1 k hk p r
  have hg := hown1.lt g rfl
  have hbel3 := hbel2.grown hS.2 hbel2.size (fun k hk => by injection hk with hk; omega)
  have HS := Lib.hid hS
  clear hS hown1
  go_wp2_with fail
  refine (l01In_v (v := true) (by rw [inB_has]; exact H0.out) _).mono ?_
  rintro e w2 ⟨rfl, rfl⟩
  go_wp2
  go_ret
  exact Made.mk rfl HS.out.1 hbel3
theorem sWithSlot_c (page : Int) (A : Option Addr) (n c : Nat) (l : List Sl) (p r : Int) (w : World) (ha : Rd w 2 A n (slotCells l)) (hn : n ≤ 1048576) :
    Calls Try.prog 78 #[.slice A n c, .int .i64 page, .agg #[.int .i64 p, .int .i64 r]] w (Made w 41 2 n (slotCells (withSlot l page (p, r)))) := by
  have hl := slots_len ha
  unfold withSlot
  rw [hl]
  cases h0 : hasB page n
  · exact sWithSlot_1 page A n c l p r w ha hn h0
  · obtain ⟨h1, h2⟩ : 0 ≤ page ∧ page < n := by simpa [hasB] using h0
    obtain ⟨k, rfl⟩ := Int.eq_ofNat_of_zero_le h1
    exact sWithSlot_2 k A n c l p r w ha hn (by omega)
theorem iWithSlot_1 (page : Int) (A : Option Addr) (n c : Nat) (l : List Sl) (p r : Int) (w : World) (ha : Rd w 2 A n (slotCells l)) (hn : n ≤ 1048576) (h0 : hasB page n = false) :
    Calls Try.prog 41 #[.slice A n c, .int .i64 page, .agg #[.int .i64 p, .int .i64 r]] w (Made w 41 2 n (slotCells l)) := by
  have H0 := Lib.hid h0
  clear h0
  obtain ⟨i0, hi, hz0, hz1, hz2⟩ := info_parts info_Slot
  have hbel0 : Below w.heap.size w (w.alloc (Obj.cells #[Value.int IntKind.i64 p, Value.int IntKind.i64 r] 41)) := (Below.refl _ _).alloc (Nat.le_refl _) _
  go_enter Try.func41, Try.ntmps41
  go_wp2_with fail
  refine (copyTable_c A n c l _ (ha.below hbel0) hn).mono ?_
  rintro e w1 ⟨G, cc, rfl, hown1, hb1⟩
  have d0 : w1.cell? ⟨w.heap.size, 0, none⟩ = some (.int .i64 p) := (hb1.cell (by simp)).trans (by simp [go_sem])
  have d1 : w1.cell? ⟨w.heap.size, 1, none⟩ = some (.int .i64 r) := (hb1.cell (by simp)).trans (by simp [go_sem])
  have hbel2 : Below w.heap.size w w1 := hbel0.trans (hb1.mono (by simp))
  simp only [World.size_alloc] at hown1
  clear hb1
  go_wp2_with fail
  clear d0 d1
  go_wp2_with fail
  refine (has_v (v := false) H0.out _).mono ?_
  rintro e w2 ⟨rfl, rfl⟩
  go_wp2
  go_ret
  exact Made.mk rfl (own_base hown1 (Nat.le_succ _)) hbel2
theorem iWithSlot_2 (k : Nat) (A : Option Addr) (n c : Nat) (l : List Sl) (p r : Int) (w : World) (ha : Rd w 2 A n (slotCells l)) (hn : n ≤ 1048576) (hk : k < n) :
    Calls Try.prog 41 #[.slice A n c, .int .i64 (k : Int), .agg #[.int .i64 p, .int .i64 r]] w (Made w 41 2 n (slotCells (l.set k (p, r)))) := by
  have h0 : hasB (k : Int) n = true := by simp [hasB]; omega
  have H0 := Lib.hid h0
  clear h0
  obtain ⟨i0, hi, hz0, hz1, hz2⟩ := info_parts info_Slot
  have hbel0 : Below w.heap.size w (w.alloc (Obj.cells #[Value.int IntKind.i64 p, Value.int IntKind.i64 r] 41)) := (Below.refl _ _).alloc (Nat.le_refl _) _
  go_enter Try.func41, Try.ntmps41
  go_wp2_with fail
  refine (copyTable_c A n c l _ (ha.below hbel0) hn).mono ?_
  rintro e w1 ⟨G, cc, rfl, hown1, hb1⟩
  have d0 : w1.cell? ⟨w.heap.size, 0, none⟩ = some (.int .i64 p) := (hb1.cell (by simp)).trans (by simp [go_sem])
  have d1 : w1.cell? ⟨w.heap.size, 1, none⟩ = some (.int .i64 r) := (hb1.cell (by simp)).trans (by simp [go_sem])
  have hbel2 : Below w.heap.size w w1 := hbel0.trans (hb1.mono (by simp))
  simp only [World.size_alloc] at hown1
  clear hb1
  go_wp2_with fail
  obtain ⟨g, rfl⟩ := own_at hown1 (by omega)
  obtain ⟨p', q', -, e0, e1, z0, z1⟩ := own_slot_at hown1 k hk
  have hS := own_slot_set hown1 k hk p r
  have hg := hown1.lt g rfl
  have hbel3 := hbel2.grown hS.2 hbel2.size (fun k hk => by injection hk with hk; omega)
  have HS := Lib.hid hS
  clear hS hown1
  go_wp2_with fail
  refine (has_v (v := true) H0.out _).mono ?_
  rintro e w2 ⟨rfl, rfl⟩
  go_wp2
  go_ret
  exact Made.mk rfl (own_base HS.out.1 (Nat.le_succ _)) hbel3
theorem iWithSlot_c (page : Int) (A : Option Addr) (n c : Nat) (l : List Sl) (p r : Int) (w : World) (ha : Rd w 2 A n (slotCells l)) (hn : n ≤ 1048576) :
    Calls Try.prog 41 #[.slice A n c, .int .i64 page, .agg #[.int .i64 p, .int .i64 r]] w (Made w 41 2 n (slotCells (withSlot l page (p, r)))) := by
  have hl := slots_len ha
  unfold withSlot
  rw [hl]
  cases h0 : hasB page n
  · exact iWithSlot_1 page A n c l p r w ha hn h0
  · obtain ⟨h1, h2⟩ : 0 ≤ page ∧ page < n := by simpa [hasB] using h0
    obtain ⟨k, rfl⟩ := Int.eq_ofNat_of_zero_le h1
    exact iWithSlot_2 k A n c l p r w ha hn (by omega)
end Go.Proofs.Ytlfnhfipnjgifaa
