/- Contracts of the table functions that only read. The tables hold at most 1048576 slots. -/
import Derived.Test.YtlfnhfipnjgifaaSl
import Derived.Test.YtlfnhfipnjgifaaApp
namespace Go.Proofs.Ytlfnhfipnjgifaa
open Go.RowKit
set_option linter.unusedVariables false
set_option maxHeartbeats 1000000

theorem sSlotAt_1 (A : Option Addr) (n c : Nat) (l : List Sl) (page : Int) (w : World) (ha : Rd w 2 A n (slotCells l)) (hn : n ≤ 1048576) (h0 : hasB page n = false) :
    Calls Try.prog 65 #[.slice A n c, .int .i64 page] w fun e w' => e = .returned (.agg #[.int .i64 (-1), .int .i64 0]) ∧ Below w.heap.size w w' := by
  go_enter Try.func65, Try.ntmps65
  go_wp2_with fail
  refine (l01In_v (v := false) (by rw [inB_has]; exact h0) _).mono ?_
  rintro e w1 ⟨rfl, rfl⟩
  go_wp2_with fail
  refine (sNoSlot_c _).mono ?_
  rintro e w1 ⟨rfl, hb1⟩
  have d0 : w1.cell? ⟨w.heap.size, 0, none⟩ = some (.int .i64 0) := (hb1.cell (by simp)).trans (by simp [go_sem])
  have d1 : w1.cell? ⟨w.heap.size, 1, none⟩ = some (.int .i64 0) := (hb1.cell (by simp)).trans (by simp [go_sem])
  have z0 : w1.frozen? ⟨w.heap.size, 0, none⟩ = false := (hb1.frozen (by simp)).trans (by simp [go_sem])
  have z1 : w1.frozen? ⟨w.heap.size, 1, none⟩ = false := (hb1.frozen (by simp)).trans (by simp [go_sem])
  have hs := hb1.size
  simp at hs
  have hb : Below w.heap.size w w1 := ((Below.refl _ _).alloc (Nat.le_refl _) _).trans (hb1.mono (by simp))
  clear hb1
  go_wp2
  exact bodyPost_ret (v := .agg #[.int .i64 (-1), .int .i64 0]) (by simp [results, Try.results65, go_sem, d0, d1]) rfl ⟨rfl, (hb.setCell (Nat.le_refl _) _).setCell (Nat.le_refl _) _⟩
theorem sSlotAt_2 (A : Option Addr) (n c : Nat) (l : List Sl) (k : Nat) (p r : Int) (w : World) (ha : Rd w 2 A n (slotCells l)) (hn : n ≤ 1048576) (hk : k < n) (hl : l[k]? = some (p, r)) :
    Calls Try.prog 65 #[.slice A n c, .int .i64 (k : Int)] w fun e w' => e = .returned (.agg #[.int .i64 p, .int .i64 r]) ∧ Below w.heap.size w w' := by
  obtain ⟨b, o, p', r', rfl, hlk, c0, c1⟩ := ha.slot k hk
  obtain ⟨rfl, rfl⟩ : p' = p ∧ r' = r := by
    have := hlk.symm.trans hl
    simpa using this
  have h0 : hasB (k : Int) n = true := by simp [hasB]; omega
  have H0 := Lib.hid h0
  clear h0 hl hlk
  have f0 := (World.cell?_alloc_lt w (Obj.cells #[Value.int IntKind.i64 0, Value.int IntKind.i64 0] 41) ⟨b, o + k * 2, none⟩ (World.block_lt_of_cell? w _ c0)).trans c0
  have f1 := (World.cell?_alloc_lt w (Obj.cells #[Value.int IntKind.i64 0, Value.int IntKind.i64 0] 41) ⟨b, o + k * 2 + 1, none⟩ (World.block_lt_of_cell? w _ c1)).trans c1
  go_enter Try.func65, Try.ntmps65
  go_wp2_with fail
  refine (l01In_v (v := true) (by rw [inB_has]; exact H0.out) _).mono ?_
  rintro e w1 ⟨rfl, rfl⟩
  go_wp2
  go_returns
  exact ⟨rfl, by go_grown⟩
theorem sSlotAt_c {p r : Int} (A : Option Addr) (n c : Nat) (l : List Sl) (page : Int) (w : World) (ha : Rd w 2 A n (slotCells l)) (hn : n ≤ 1048576) (hs : slotAt l page = (p, r)) :
    Calls Try.prog 65 #[.slice A n c, .int .i64 page] w fun e w' => e = .returned (.agg #[.int .i64 p, .int .i64 r]) ∧ Below w.heap.size w w' := by
  have hl := slots_len ha
  cases h0 : hasB page n
  · rw [slotAt, hl, h0] at hs
    obtain ⟨rfl, rfl⟩ : -1 = p ∧ 0 = r := by simpa [noSlot] using hs
    exact sSlotAt_1 A n c l page w ha hn h0
  · rw [slotAt, hl, h0] at hs
    obtain ⟨h1, h2⟩ : 0 ≤ page ∧ page < n := by simpa [hasB] using h0
    obtain ⟨k, rfl⟩ := Int.eq_ofNat_of_zero_le h1
    have hk : k < l.length := by omega
    refine sSlotAt_2 A n c l k p r w ha hn (by omega) ?_
    rw [List.getElem?_eq_getElem hk]
    simpa [List.getElem?_eq_getElem hk] using hs
theorem iSlotAt_1 (A : Option Addr) (n c : Nat) (l : List Sl) (page : Int) (w : World) (ha : Rd w 2 A n (slotCells l)) (hn : n ≤ 1048576) (h0 : hasB page n = false) :
    Calls Try.prog 79 #[.slice A n c, .int .i64 page] w fun e w' => e = .returned (.agg #[.int .i64 (-1), .int .i64 0]) ∧ Below w.heap.size w w' := by
  go_enter Try.func79, Try.ntmps79
  go_wp2_with fail
  refine (has_v (v := false) h0 _).mono ?_
  rintro e w1 ⟨rfl, rfl⟩
  go_wp2_with fail
  refine (iNoSlot_c _).mono ?_
  rintro e w1 ⟨rfl, hb1⟩
  have d0 : w1.cell? ⟨w.heap.size, 0, none⟩ = some (.int .i64 0) := (hb1.cell (by simp)).trans (by simp [go_sem])
  have d1 : w1.cell? ⟨w.heap.size, 1, none⟩ = some (.int .i64 0) := (hb1.cell (by simp)).trans (by simp [go_sem])
  have z0 : w1.frozen? ⟨w.heap.size, 0, none⟩ = false := (hb1.frozen (by simp)).trans (by simp [go_sem])
  have z1 : w1.frozen? ⟨w.heap.size, 1, none⟩ = false := (hb1.frozen (by simp)).trans (by simp [go_sem])
  have hs := hb1.size
  simp at hs
  have hb : Below w.heap.size w w1 := ((Below.refl _ _).alloc (Nat.le_refl _) _).trans (hb1.mono (by simp))
  clear hb1
  go_wp2
  exact bodyPost_ret (v := .agg #[.int .i64 (-1), .int .i64 0]) (by simp [results, Try.results79, go_sem, d0, d1]) rfl ⟨rfl, (hb.setCell (Nat.le_refl _) _).setCell (Nat.le_refl _) _⟩
theorem iSlotAt_2 (A : Option Addr) (n c : Nat) (l : List Sl) (k : Nat) (p r : Int) (w : World) (ha : Rd w 2 A n (slotCells l)) (hn : n ≤ 1048576) (hk : k < n) (hl : l[k]? = some (p, r)) :
    Calls Try.prog 79 #[.slice A n c, .int .i64 (k : Int)] w fun e w' => e = .returned (.agg #[.int .i64 p, .int .i64 r]) ∧ Below w.heap.size w w' := by
  obtain ⟨b, o, p', r', rfl, hlk, c0, c1⟩ := ha.slot k hk
  obtain ⟨rfl, rfl⟩ : p' = p ∧ r' = r := by
    have := hlk.symm.trans hl
    simpa using this
  have h0 : hasB (k : Int) n = true := by simp [hasB]; omega
  have H0 := Lib.hid h0
  clear h0 hl hlk
  have f0 := (World.cell?_alloc_lt w (Obj.cells #[Value.int IntKind.i64 0, Value.int IntKind.i64 0] 41) ⟨b, o + k * 2, none⟩ (World.block_lt_of_cell? w _ c0)).trans c0
  have f1 := (World.cell?_alloc_lt w (Obj.cells #[Value.int IntKind.i64 0, Value.int IntKind.i64 0] 41) ⟨b, o + k * 2 + 1, none⟩ (World.block_lt_of_cell? w _ c1)).trans c1
  go_enter Try.func79, Try.ntmps79
  go_wp2_with fail
  refine (has_v (v := true) H0.out _).mono ?_
  rintro e w1 ⟨rfl, rfl⟩
  go_wp2
  go_returns
  exact ⟨rfl, by go_grown⟩
theorem iSlotAt_c {p r : Int} (A : Option Addr) (n c : Nat) (l : List Sl) (page : Int) (w : World) (ha : Rd w 2 A n (slotCells l)) (hn : n ≤ 1048576) (hs : slotAt l page = (p, r)) :
    Calls Try.prog 79 #[.slice A n c, .int .i64 page] w fun e w' => e = .returned (.agg #[.int .i64 p, .int .i64 r]) ∧ Below w.heap.size w w' := by
  have hl := slots_len ha
  cases h0 : hasB page n
  · rw [slotAt, hl, h0] at hs
    obtain ⟨rfl, rfl⟩ : -1 = p ∧ 0 = r := by simpa [noSlot] using hs
    exact iSlotAt_1 A n c l page w ha hn h0
  · rw [slotAt, hl, h0] at hs
    obtain ⟨h1, h2⟩ : 0 ≤ page ∧ page < n := by simpa [hasB] using h0
    obtain ⟨k, rfl⟩ := Int.eq_ofNat_of_zero_le h1
    have hk : k < l.length := by omega
    refine iSlotAt_2 A n c l k p r w ha hn (by omega) ?_
    rw [List.getElem?_eq_getElem hk]
    simpa [List.getElem?_eq_getElem hk] using hs
end Go.Proofs.Ytlfnhfipnjgifaa
