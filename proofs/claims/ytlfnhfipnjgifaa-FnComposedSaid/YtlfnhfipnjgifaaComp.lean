/- Contracts of table functions: ComposeSlot. The tables hold at most 1048576 slots. -/
import Derived.Test.YtlfnhfipnjgifaaTab
namespace Go.Proofs.Ytlfnhfipnjgifaa
open Go.RowKit
set_option linter.unusedVariables false
set_option maxHeartbeats 1000000

theorem sComposeSlot_1 {sp sr : Int} (ip ir : Int) (A : Option Addr) (n c : Nat) (l : List Sl) (w : World) (ha : Rd w 2 A n (slotCells l)) (hn : n ≤ 1048576) (hS : slotAt l ip = (sp, sr))
    (h : (ip == -1) = true ∨ ((ip == -1) = false ∧ (sp == -1) = true) ∨ ((ip == -1) = false ∧ (sp == -1) = false ∧ (bothR ir sr == 0) = true)) :
    Calls Try.prog 94 #[.agg #[.int .i64 ip, .int .i64 ir], .slice A n c] w fun e w' => e = .returned (.agg #[.int .i64 (-1), .int .i64 0]) ∧ Below w.heap.size w w' := by
  have HS := Lib.hid hS
  clear hS
  have hB0 : Below w.heap.size w ((w.alloc (Obj.cells #[Value.int IntKind.i64 ip, Value.int IntKind.i64 ir] 41)).alloc (Obj.cells #[Value.int IntKind.i64 0, Value.int IntKind.i64 0] 41)) := ((Below.refl _ _).alloc (Nat.le_refl _) _).alloc (by simp) _
  rcases h with h1 | ⟨h1, h2⟩ | ⟨h1, h2, h3⟩
  all_goals
    go_enter Try.func94, Try.ntmps94
    go_wp2_with fail
    refine (sSlotAt_c A n c l ip _ (ha.below hB0) hn HS.out).mono ?_
    rintro e w1 ⟨rfl, hb1⟩
    have i0 : w1.cell? ⟨w.heap.size, 0, none⟩ = some (.int .i64 ip) := (hb1.cell (by simp; omega)).trans (by simp [go_sem])
    have i1 : w1.cell? ⟨w.heap.size, 1, none⟩ = some (.int .i64 ir) := (hb1.cell (by simp; omega)).trans (by simp [go_sem])
    have r0 : w1.cell? ⟨w.heap.size + 1, 0, none⟩ = some (.int .i64 0) := (hb1.cell (by simp)).trans (by simp [go_sem])
    have r1 : w1.cell? ⟨w.heap.size + 1, 1, none⟩ = some (.int .i64 0) := (hb1.cell (by simp)).trans (by simp [go_sem])
    have z0 : w1.frozen? ⟨w.heap.size + 1, 0, none⟩ = false := (hb1.frozen (by simp)).trans (by simp [go_sem])
    have z1 : w1.frozen? ⟨w.heap.size + 1, 1, none⟩ = false := (hb1.frozen (by simp)).trans (by simp [go_sem])
    have hs := hb1.size
    simp at hs
    have hb : Below w.heap.size w w1 := hB0.trans (hb1.mono (by simp; omega))
    have hlt : w.heap.size + 1 < w1.heap.size := by omega
    clear hb1 hs
    have i0' : (w1.alloc (Obj.cells #[Value.int IntKind.i64 sp, Value.int IntKind.i64 sr] 41)).cell? ⟨w.heap.size, 0, none⟩ = some (.int .i64 ip) := by rw [World.cell?_alloc_lt _ _ _ (by simp; omega)]; exact i0
    have i1' : (w1.alloc (Obj.cells #[Value.int IntKind.i64 sp, Value.int IntKind.i64 sr] 41)).cell? ⟨w.heap.size, 1, none⟩ = some (.int .i64 ir) := by rw [World.cell?_alloc_lt _ _ _ (by simp; omega)]; exact i1
    have r0' : (w1.alloc (Obj.cells #[Value.int IntKind.i64 sp, Value.int IntKind.i64 sr] 41)).cell? ⟨w.heap.size + 1, 0, none⟩ = some (.int .i64 0) := by rw [World.cell?_alloc_lt _ _ _ (by simp; omega)]; exact r0
    have r1' : (w1.alloc (Obj.cells #[Value.int IntKind.i64 sp, Value.int IntKind.i64 sr] 41)).cell? ⟨w.heap.size + 1, 1, none⟩ = some (.int .i64 0) := by rw [World.cell?_alloc_lt _ _ _ (by simp; omega)]; exact r1
    go_wp2_with fail
    refine (sBothRights_c _ _ _).mono ?_
    rintro e w2 ⟨rfl, rfl⟩
    go_wp2_with fail
    refine (sNoSlot_c _).mono ?_
    rintro e w3 ⟨rfl, hb3⟩
    have q0 : w3.cell? ⟨w.heap.size + 1, 0, none⟩ = some (.int .i64 0) := (hb3.cell (by simp; omega)).trans r0'
    have q1 : w3.cell? ⟨w.heap.size + 1, 1, none⟩ = some (.int .i64 0) := (hb3.cell (by simp; omega)).trans r1'
    have y0 : w3.frozen? ⟨w.heap.size + 1, 0, none⟩ = false := (hb3.frozen (by simp; omega)).trans ((frz_alloc _ _ (by simp; omega)).trans z0)
    have y1 : w3.frozen? ⟨w.heap.size + 1, 1, none⟩ = false := (hb3.frozen (by simp; omega)).trans ((frz_alloc _ _ (by simp; omega)).trans z1)
    have hb' : Below w.heap.size w w3 := (hb.alloc (by omega) _).trans (hb3.mono (by simp; omega))
    clear hb3 i0 i1 i0' i1' r0 r1 r0' r1' z0 z1
    go_wp2
    exact bodyPost_ret (v := .agg #[.int .i64 (-1), .int .i64 0]) (by simp [results, Try.results94, go_sem, q0, q1]) rfl ⟨rfl, (hb'.setCell (by simp) _).setCell (by simp) _⟩
theorem sComposeSlot_2 {sp sr : Int} (ip ir : Int) (A : Option Addr) (n c : Nat) (l : List Sl) (w : World) (ha : Rd w 2 A n (slotCells l)) (hn : n ≤ 1048576) (hS : slotAt l ip = (sp, sr))
    (h1 : (ip == -1) = false) (h2 : (sp == -1) = false) (h3 : (bothR ir sr == 0) = false) :
    Calls Try.prog 94 #[.agg #[.int .i64 ip, .int .i64 ir], .slice A n c] w fun e w' => e = .returned (.agg #[.int .i64 sp, .int .i64 (bothR ir sr)]) ∧ Below w.heap.size w w' := by
  have HS := Lib.hid hS
  clear hS
  have hB0 : Below w.heap.size w ((w.alloc (Obj.cells #[Value.int IntKind.i64 ip, Value.int IntKind.i64 ir] 41)).alloc (Obj.cells #[Value.int IntKind.i64 0, Value.int IntKind.i64 0] 41)) := ((Below.refl _ _).alloc (Nat.le_refl _) _).alloc (by simp) _
  · skip
    go_enter Try.func94, Try.ntmps94
    go_wp2_with fail
    refine (sSlotAt_c A n c l ip _ (ha.below hB0) hn HS.out).mono ?_
    rintro e w1 ⟨rfl, hb1⟩
    have i0 : w1.cell? ⟨w.heap.size, 0, none⟩ = some (.int .i64 ip) := (hb1.cell (by simp; omega)).trans (by simp [go_sem])
    have i1 : w1.cell? ⟨w.heap.size, 1, none⟩ = some (.int .i64 ir) := (hb1.cell (by simp; omega)).trans (by simp [go_sem])
    have r0 : w1.cell? ⟨w.heap.size + 1, 0, none⟩ = some (.int .i64 0) := (hb1.cell (by simp)).trans (by simp [go_sem])
    have r1 : w1.cell? ⟨w.heap.size + 1, 1, none⟩ = some (.int .i64 0) := (hb1.cell (by simp)).trans (by simp [go_sem])
    have z0 : w1.frozen? ⟨w.heap.size + 1, 0, none⟩ = false := (hb1.frozen (by simp)).trans (by simp [go_sem])
    have z1 : w1.frozen? ⟨w.heap.size + 1, 1, none⟩ = false := (hb1.frozen (by simp)).trans (by simp [go_sem])
    have hs := hb1.size
    simp at hs
    have hb : Below w.heap.size w w1 := hB0.trans (hb1.mono (by simp; omega))
    have hlt : w.heap.size + 1 < w1.heap.size := by omega
    clear hb1 hs
    have i0' : (w1.alloc (Obj.cells #[Value.int IntKind.i64 sp, Value.int IntKind.i64 sr] 41)).cell? ⟨w.heap.size, 0, none⟩ = some (.int .i64 ip) := by rw [World.cell?_alloc_lt _ _ _ (by simp; omega)]; exact i0
    have i1' : (w1.alloc (Obj.cells #[Value.int IntKind.i64 sp, Value.int IntKind.i64 sr] 41)).cell? ⟨w.heap.size, 1, none⟩ = some (.int .i64 ir) := by rw [World.cell?_alloc_lt _ _ _ (by simp; omega)]; exact i1
    have r0' : (w1.alloc (Obj.cells #[Value.int IntKind.i64 sp, Value.int IntKind.i64 sr] 41)).cell? ⟨w.heap.size + 1, 0, none⟩ = some (.int .i64 0) := by rw [World.cell?_alloc_lt _ _ _ (by simp; omega)]; exact r0
    have r1' : (w1.alloc (Obj.cells #[Value.int IntKind.i64 sp, Value.int IntKind.i64 sr] 41)).cell? ⟨w.heap.size + 1, 1, none⟩ = some (.int .i64 0) := by rw [World.cell?_alloc_lt _ _ _ (by simp; omega)]; exact r1
    go_wp2_with fail
    refine (sBothRights_c _ _ _).mono ?_
    rintro e w2 ⟨rfl, rfl⟩
    have y0 : (w1.alloc (Obj.cells #[Value.int IntKind.i64 sp, Value.int IntKind.i64 sr] 41)).frozen? ⟨w.heap.size + 1, 0, none⟩ = false := (frz_alloc _ _ (by simp; omega)).trans z0
    have y1 : (w1.alloc (Obj.cells #[Value.int IntKind.i64 sp, Value.int IntKind.i64 sr] 41)).frozen? ⟨w.heap.size + 1, 1, none⟩ = false := (frz_alloc _ _ (by simp; omega)).trans z1
    have hb' := hb.alloc (by omega) (Obj.cells #[Value.int IntKind.i64 sp, Value.int IntKind.i64 sr] 41)
    have j0 : (w1.alloc (Obj.cells #[Value.int IntKind.i64 sp, Value.int IntKind.i64 sr] 41)).cell? ⟨w1.heap.size, 0, none⟩ = some (.int .i64 sp) := by simp [go_sem]
    have j1 : (w1.alloc (Obj.cells #[Value.int IntKind.i64 sp, Value.int IntKind.i64 sr] 41)).cell? ⟨w1.heap.size, 1, none⟩ = some (.int .i64 sr) := by simp [go_sem]
    clear i0 i1 r0 r1 z0 z1
    generalize w1.alloc (Obj.cells #[Value.int IntKind.i64 sp, Value.int IntKind.i64 sr] 41) = w4 at i0' i1' r0' r1' y0 y1 hb' j0 j1 ⊢
    go_wp2
    exact bodyPost_ret (v := .agg #[.int .i64 sp, .int .i64 (bothR ir sr)]) (by simp [results, Try.results94, go_sem, r0', r1']) rfl ⟨rfl, (hb'.setCell (by simp) _).setCell (by simp) _⟩
theorem sComposeSlot_c {p r : Int} (ip ir : Int) (A : Option Addr) (n c : Nat) (l : List Sl) (w : World) (ha : Rd w 2 A n (slotCells l)) (hn : n ≤ 1048576) (hc : composeSlot (ip, ir) l = (p, r)) :
    Calls Try.prog 94 #[.agg #[.int .i64 ip, .int .i64 ir], .slice A n c] w fun e w' => e = .returned (.agg #[.int .i64 p, .int .i64 r]) ∧ Below w.heap.size w w' := by
  unfold composeSlot at hc
  by_cases h : ip = -1 ∨ (slotAt l ip).1 = -1 ∨ bothR ir (slotAt l ip).2 = 0
  · rw [if_pos h] at hc
    obtain ⟨rfl, rfl⟩ : -1 = p ∧ 0 = r := by simpa [noSlot] using hc
    refine sComposeSlot_1 (sp := (slotAt l ip).1) (sr := (slotAt l ip).2) ip ir A n c l w ha hn rfl ?_
    by_cases h1 : ip = -1
    · exact .inl (by simp [h1])
    · by_cases h2 : (slotAt l ip).1 = -1
      · exact .inr (.inl ⟨by simp [h1], by simp [h2]⟩)
      · exact .inr (.inr ⟨by simp [h1], by simp [h2], by simpa [h1, h2] using h⟩)
  · rw [if_neg h] at hc
    simp only [not_or] at h
    obtain ⟨rfl, rfl⟩ : (slotAt l ip).1 = p ∧ bothR ir (slotAt l ip).2 = r := by simpa using hc
    exact sComposeSlot_2 (sp := (slotAt l ip).1) (sr := (slotAt l ip).2) ip ir A n c l w ha hn rfl (by simp [h.1]) (by simp [h.2.1]) (by simp [h.2.2])
theorem iComposeSlot_1 {sp sr : Int} (ip ir : Int) (A : Option Addr) (n c : Nat) (l : List Sl) (w : World) (ha : Rd w 2 A n (slotCells l)) (hn : n ≤ 1048576) (hS : slotAt l ip = (sp, sr))
    (h : (ip == -1) = true ∨ ((ip == -1) = false ∧ (sp == -1) = true) ∨ ((ip == -1) = false ∧ (sp == -1) = false ∧ (bothR ir sr == 0) = true)) :
    Calls Try.prog 90 #[.agg #[.int .i64 ip, .int .i64 ir], .slice A n c] w fun e w' => e = .returned (.agg #[.int .i64 (-1), .int .i64 0]) ∧ Below w.heap.size w w' := by
  have HS := Lib.hid hS
  clear hS
  have hB0 : Below w.heap.size w ((w.alloc (Obj.cells #[Value.int IntKind.i64 ip, Value.int IntKind.i64 ir] 41)).alloc (Obj.cells #[Value.int IntKind.i64 0, Value.int IntKind.i64 0] 41)) := ((Below.refl _ _).alloc (Nat.le_refl _) _).alloc (by simp) _
  rcases h with h1 | ⟨h1, h2⟩ | ⟨h1, h2, h3⟩
  all_goals
    go_enter Try.func90, Try.ntmps90
    go_wp2_with fail
    refine (iSlotAt_c A n c l ip _ (ha.below hB0) hn HS.out).mono ?_
    rintro e w1 ⟨rfl, hb1⟩
    have i0 : w1.cell? ⟨w.heap.size, 0, none⟩ = some (.int .i64 ip) := (hb1.cell (by simp; omega)).trans (by simp [go_sem])
    have i1 : w1.cell? ⟨w.heap.size, 1, none⟩ = some (.int .i64 ir) := (hb1.cell (by simp; omega)).trans (by simp [go_sem])
    have r0 : w1.cell? ⟨w.heap.size + 1, 0, none⟩ = some (.int .i64 0) := (hb1.cell (by simp)).trans (by simp [go_sem])
    have r1 : w1.cell? ⟨w.heap.size + 1, 1, none⟩ = some (.int .i64 0) := (hb1.cell (by simp)).trans (by simp [go_sem])
    have z0 : w1.frozen? ⟨w.heap.size + 1, 0, none⟩ = false := (hb1.frozen (by simp)).trans (by simp [go_sem])
    have z1 : w1.frozen? ⟨w.heap.size + 1, 1, none⟩ = false := (hb1.frozen (by simp)).trans (by simp [go_sem])
    have hs := hb1.size
    simp at hs
    have hb : Below w.heap.size w w1 := hB0.trans (hb1.mono (by simp; omega))
    have hlt : w.heap.size + 1 < w1.heap.size := by omega
    clear hb1 hs
    have i0' : (w1.alloc (Obj.cells #[Value.int IntKind.i64 sp, Value.int IntKind.i64 sr] 41)).cell? ⟨w.heap.size, 0, none⟩ = some (.int .i64 ip) := by rw [World.cell?_alloc_lt _ _ _ (by simp; omega)]; exact i0
    have i1' : (w1.alloc (Obj.cells #[Value.int IntKind.i64 sp, Value.int IntKind.i64 sr] 41)).cell? ⟨w.heap.size, 1, none⟩ = some (.int .i64 ir) := by rw [World.cell?_alloc_lt _ _ _ (by simp; omega)]; exact i1
    have r0' : (w1.alloc (Obj.cells #[Value.int IntKind.i64 sp, Value.int IntKind.i64 sr] 41)).cell? ⟨w.heap.size + 1, 0, none⟩ = some (.int .i64 0) := by rw [World.cell?_alloc_lt _ _ _ (by simp; omega)]; exact r0
    have r1' : (w1.alloc (Obj.cells #[Value.int IntKind.i64 sp, Value.int IntKind.i64 sr] 41)).cell? ⟨w.heap.size + 1, 1, none⟩ = some (.int .i64 0) := by rw [World.cell?_alloc_lt _ _ _ (by simp; omega)]; exact r1
    go_wp2_with fail
    refine (iBothRights_c _ _ _).mono ?_
    rintro e w2 ⟨rfl, rfl⟩
    go_wp2_with fail
    refine (iNoSlot_c _).mono ?_
    rintro e w3 ⟨rfl, hb3⟩
    have q0 : w3.cell? ⟨w.heap.size + 1, 0, none⟩ = some (.int .i64 0) := (hb3.cell (by simp; omega)).trans r0'
    have q1 : w3.cell? ⟨w.heap.size + 1, 1, none⟩ = some (.int .i64 0) := (hb3.cell (by simp; omega)).trans r1'
    have y0 : w3.frozen? ⟨w.heap.size + 1, 0, none⟩ = false := (hb3.frozen (by simp; omega)).trans ((frz_alloc _ _ (by simp; omega)).trans z0)
    have y1 : w3.frozen? ⟨w.heap.size + 1, 1, none⟩ = false := (hb3.frozen (by simp; omega)).trans ((frz_alloc _ _ (by simp; omega)).trans z1)
    have hb' : Below w.heap.size w w3 := (hb.alloc (by omega) _).trans (hb3.mono (by simp; omega))
    clear hb3 i0 i1 i0' i1' r0 r1 r0' r1' z0 z1
    go_wp2
    exact bodyPost_ret (v := .agg #[.int .i64 (-1), .int .i64 0]) (by simp [results, Try.results90, go_sem, q0, q1]) rfl ⟨rfl, (hb'.setCell (by simp) _).setCell (by simp) _⟩
theorem iComposeSlot_2 {sp sr : Int} (ip ir : Int) (A : Option Addr) (n c : Nat) (l : List Sl) (w : World) (ha : Rd w 2 A n (slotCells l)) (hn : n ≤ 1048576) (hS : slotAt l ip = (sp, sr))
    (h1 : (ip == -1) = false) (h2 : (sp == -1) = false) (h3 : (bothR ir sr == 0) = false) :
    Calls Try.prog 90 #[.agg #[.int .i64 ip, .int .i64 ir], .slice A n c] w fun e w' => e = .returned (.agg #[.int .i64 sp, .int .i64 (bothR ir sr)]) ∧ Below w.heap.size w w' := by
  have HS := Lib.hid hS
  clear hS
  have hB0 : Below w.heap.size w ((w.alloc (Obj.cells #[Value.int IntKind.i64 ip, Value.int IntKind.i64 ir] 41)).alloc (Obj.cells #[Value.int IntKind.i64 0, Value.int IntKind.i64 0] 41)) := ((Below.refl _ _).alloc (Nat.le_refl _) _).alloc (by simp) _
  · skip
    go_enter Try.func90, Try.ntmps90
    go_wp2_with fail
    refine (iSlotAt_c A n c l ip _ (ha.below hB0) hn HS.out).mono ?_
    rintro e w1 ⟨rfl, hb1⟩
    have i0 : w1.cell? ⟨w.heap.size, 0, none⟩ = some (.int .i64 ip) := (hb1.cell (by simp; omega)).trans (by simp [go_sem])
    have i1 : w1.cell? ⟨w.heap.size, 1, none⟩ = some (.int .i64 ir) := (hb1.cell (by simp; omega)).trans (by simp [go_sem])
    have r0 : w1.cell? ⟨w.heap.size + 1, 0, none⟩ = some (.int .i64 0) := (hb1.cell (by simp)).trans (by simp [go_sem])
    have r1 : w1.cell? ⟨w.heap.size + 1, 1, none⟩ = some (.int .i64 0) := (hb1.cell (by simp)).trans (by simp [go_sem])
    have z0 : w1.frozen? ⟨w.heap.size + 1, 0, none⟩ = false := (hb1.frozen (by simp)).trans (by simp [go_sem])
    have z1 : w1.frozen? ⟨w.heap.size + 1, 1, none⟩ = false := (hb1.frozen (by simp)).trans (by simp [go_sem])
    have hs := hb1.size
    simp at hs
    have hb : Below w.heap.size w w1 := hB0.trans (hb1.mono (by simp; omega))
    have hlt : w.heap.size + 1 < w1.heap.size := by omega
    clear hb1 hs
    have i0' : (w1.alloc (Obj.cells #[Value.int IntKind.i64 sp, Value.int IntKind.i64 sr] 41)).cell? ⟨w.heap.size, 0, none⟩ = some (.int .i64 ip) := by rw [World.cell?_alloc_lt _ _ _ (by simp; omega)]; exact i0
    have i1' : (w1.alloc (Obj.cells #[Value.int IntKind.i64 sp, Value.int IntKind.i64 sr] 41)).cell? ⟨w.heap.size, 1, none⟩ = some (.int .i64 ir) := by rw [World.cell?_alloc_lt _ _ _ (by simp; omega)]; exact i1
    have r0' : (w1.alloc (Obj.cells #[Value.int IntKind.i64 sp, Value.int IntKind.i64 sr] 41)).cell? ⟨w.heap.size + 1, 0, none⟩ = some (.int .i64 0) := by rw [World.cell?_alloc_lt _ _ _ (by simp; omega)]; exact r0
    have r1' : (w1.alloc (Obj.cells #[Value.int IntKind.i64 sp, Value.int IntKind.i64 sr] 41)).cell? ⟨w.heap.size + 1, 1, none⟩ = some (.int .i64 0) := by rw [World.cell?_alloc_lt _ _ _ (by simp; omega)]; exact r1
    go_wp2_with fail
    refine (iBothRights_c _ _ _).mono ?_
    rintro e w2 ⟨rfl, rfl⟩
    have y0 : (w1.alloc (Obj.cells #[Value.int IntKind.i64 sp, Value.int IntKind.i64 sr] 41)).frozen? ⟨w.heap.size + 1, 0, none⟩ = false := (frz_alloc _ _ (by simp; omega)).trans z0
    have y1 : (w1.alloc (Obj.cells #[Value.int IntKind.i64 sp, Value.int IntKind.i64 sr] 41)).frozen? ⟨w.heap.size + 1, 1, none⟩ = false := (frz_alloc _ _ (by simp; omega)).trans z1
    have hb' := hb.alloc (by omega) (Obj.cells #[Value.int IntKind.i64 sp, Value.int IntKind.i64 sr] 41)
    have j0 : (w1.alloc (Obj.cells #[Value.int IntKind.i64 sp, Value.int IntKind.i64 sr] 41)).cell? ⟨w1.heap.size, 0, none⟩ = some (.int .i64 sp) := by simp [go_sem]
    have j1 : (w1.alloc (Obj.cells #[Value.int IntKind.i64 sp, Value.int IntKind.i64 sr] 41)).cell? ⟨w1.heap.size, 1, none⟩ = some (.int .i64 sr) := by simp [go_sem]
    clear i0 i1 r0 r1 z0 z1
    generalize w1.alloc (Obj.cells #[Value.int IntKind.i64 sp, Value.int IntKind.i64 sr] 41) = w4 at i0' i1' r0' r1' y0 y1 hb' j0 j1 ⊢
    go_wp2
    exact bodyPost_ret (v := .agg #[.int .i64 sp, .int .i64 (bothR ir sr)]) (by simp [results, Try.results90, go_sem, r0', r1']) rfl ⟨rfl, (hb'.setCell (by simp) _).setCell (by simp) _⟩
theorem iComposeSlot_c {p r : Int} (ip ir : Int) (A : Option Addr) (n c : Nat) (l : List Sl) (w : World) (ha : Rd w 2 A n (slotCells l)) (hn : n ≤ 1048576) (hc : composeSlot (ip, ir) l = (p, r)) :
    Calls Try.prog 90 #[.agg #[.int .i64 ip, .int .i64 ir], .slice A n c] w fun e w' => e = .returned (.agg #[.int .i64 p, .int .i64 r]) ∧ Below w.heap.size w w' := by
  unfold composeSlot at hc
  by_cases h : ip = -1 ∨ (slotAt l ip).1 = -1 ∨ bothR ir (slotAt l ip).2 = 0
  · rw [if_pos h] at hc
    obtain ⟨rfl, rfl⟩ : -1 = p ∧ 0 = r := by simpa [noSlot] using hc
    refine iComposeSlot_1 (sp := (slotAt l ip).1) (sr := (slotAt l ip).2) ip ir A n c l w ha hn rfl ?_
    by_cases h1 : ip = -1
    · exact .inl (by simp [h1])
    · by_cases h2 : (slotAt l ip).1 = -1
      · exact .inr (.inl ⟨by simp [h1], by simp [h2]⟩)
      · exact .inr (.inr ⟨by simp [h1], by simp [h2], by simpa [h1, h2] using h⟩)
  · rw [if_neg h] at hc
    simp only [not_or] at h
    obtain ⟨rfl, rfl⟩ : (slotAt l ip).1 = p ∧ bothR ir (slotAt l ip).2 = r := by simpa using hc
    exact iComposeSlot_2 (sp := (slotAt l ip).1) (sr := (slotAt l ip).2) ip ir A n c l w ha hn rfl (by simp [h.1]) (by simp [h.2.1]) (by simp [h.2.2])
end Go.Proofs.Ytlfnhfipnjgifaa
