/- Contracts of table functions: WalkInner and Walk. The tables hold at most 1048576 slots. -/
import Derived.Test.YtlfnhfipnjgifaaTab
namespace Go.Proofs.Ytlfnhfipnjgifaa
open Go.RowKit
set_option linter.unusedVariables false
set_option maxHeartbeats 1000000

theorem need_zero {r need : Int} (h : enough r need = true) : (need == 0) = !needOk need := by
  have h1 : 0 ≤ need ∧ need ≤ 3 := by
    unfold enough at h
    simp only [Bool.and_eq_true] at h
    exact (rOk_iff need).1 h.2.1
  rw [Bool.eq_iff_iff]
  simp [needOk, inB]
  omega
theorem sWalkInner_1 {sp sr : Int} (A : Option Addr) (n c : Nat) (l : List Sl) (page need : Int) (w : World) (ha : Rd w 2 A n (slotCells l)) (hn : n ≤ 1048576) (hS : slotAt l page = (sp, sr)) (h : (sp == -1) = true) :
    Calls Try.prog 63 #[.slice A n c, .int .i64 page, .int .i64 need] w fun e w' => e = .returned (.tuple #[.int .i64 (-1), .bool false]) ∧ Below w.heap.size w w' := by
  have HS := Lib.hid hS
  have H5 := Lib.hid (show enough sr need = enough sr need from rfl)
  have H6 := Lib.hid (show inB need 1 3 = inB need 1 3 from rfl)
  clear hS
  · skip
    go_enter Try.func63, Try.ntmps63
    go_wp2_with fail
    refine (sSlotAt_c A n c l page _ ha hn HS.out).mono ?_
    rintro e w1 ⟨rfl, hb1⟩
    have hb2 := hb1.alloc hb1.size (Obj.cells #[Value.int IntKind.i64 sp, Value.int IntKind.i64 sr] 41)
    go_wp2_with (first | (go_at_call 67; refine (sEnough_v H5.out _).mono ?_; rintro e w' ⟨rfl, rfl⟩))
    go_ret2
    exact ⟨rfl, hb2⟩
theorem sWalkInner_2 {sp sr : Int} (A : Option Addr) (n c : Nat) (l : List Sl) (page need : Int) (w : World) (ha : Rd w 2 A n (slotCells l)) (hn : n ≤ 1048576) (hS : slotAt l page = (sp, sr)) (h : (sp == -1) = false) (h5 : enough sr need = false) :
    Calls Try.prog 63 #[.slice A n c, .int .i64 page, .int .i64 need] w fun e w' => e = .returned (.tuple #[.int .i64 (-1), .bool false]) ∧ Below w.heap.size w w' := by
  have HS := Lib.hid hS
  have H5 := Lib.hid h5
  have H6 := Lib.hid (show inB need 1 3 = inB need 1 3 from rfl)
  clear hS h5
  · skip
    go_enter Try.func63, Try.ntmps63
    go_wp2_with fail
    refine (sSlotAt_c A n c l page _ ha hn HS.out).mono ?_
    rintro e w1 ⟨rfl, hb1⟩
    have hb2 := hb1.alloc hb1.size (Obj.cells #[Value.int IntKind.i64 sp, Value.int IntKind.i64 sr] 41)
    go_wp2_with (first | (go_at_call 67; refine (sEnough_v H5.out _).mono ?_; rintro e w' ⟨rfl, rfl⟩))
    go_ret2
    exact ⟨rfl, hb2⟩
theorem sWalkInner_3 {sp sr : Int} (A : Option Addr) (n c : Nat) (l : List Sl) (page need : Int) (w : World) (ha : Rd w 2 A n (slotCells l)) (hn : n ≤ 1048576) (hS : slotAt l page = (sp, sr)) (h : (sp == -1) = false) (h5 : enough sr need = true) (h6 : (need == 0) = !false) :
    Calls Try.prog 63 #[.slice A n c, .int .i64 page, .int .i64 need] w fun e w' => e = .returned (.tuple #[.int .i64 (-1), .bool false]) ∧ Below w.heap.size w w' := by
  have HS := Lib.hid hS
  have H5 := Lib.hid h5
  clear hS h5
  · skip
    go_enter Try.func63, Try.ntmps63
    go_wp2_with fail
    refine (sSlotAt_c A n c l page _ ha hn HS.out).mono ?_
    rintro e w1 ⟨rfl, hb1⟩
    have hb2 := hb1.alloc hb1.size (Obj.cells #[Value.int IntKind.i64 sp, Value.int IntKind.i64 sr] 41)
    go_wp2_with (first | (go_at_call 67; refine (sEnough_v H5.out _).mono ?_; rintro e w' ⟨rfl, rfl⟩))
    go_ret2
    exact ⟨rfl, hb2⟩
theorem sWalkInner_4 {sp sr : Int} (A : Option Addr) (n c : Nat) (l : List Sl) (page need : Int) (w : World) (ha : Rd w 2 A n (slotCells l)) (hn : n ≤ 1048576) (hS : slotAt l page = (sp, sr)) (h : (sp == -1) = false) (h5 : enough sr need = true) (h6 : (need == 0) = !true) :
    Calls Try.prog 63 #[.slice A n c, .int .i64 page, .int .i64 need] w fun e w' => e = .returned (.tuple #[.int .i64 sp, .bool true]) ∧ Below w.heap.size w w' := by
  have HS := Lib.hid hS
  have H5 := Lib.hid h5
  clear hS h5
  · skip
    go_enter Try.func63, Try.ntmps63
    go_wp2_with fail
    refine (sSlotAt_c A n c l page _ ha hn HS.out).mono ?_
    rintro e w1 ⟨rfl, hb1⟩
    have hb2 := hb1.alloc hb1.size (Obj.cells #[Value.int IntKind.i64 sp, Value.int IntKind.i64 sr] 41)
    go_wp2_with (first | (go_at_call 67; refine (sEnough_v H5.out _).mono ?_; rintro e w' ⟨rfl, rfl⟩))
    go_ret2
    exact ⟨rfl, hb2⟩
theorem sWalkInner_c {p : Int} {v : Bool} (A : Option Addr) (n c : Nat) (l : List Sl) (page need : Int) (w : World) (ha : Rd w 2 A n (slotCells l)) (hn : n ≤ 1048576) (hw : walkInner l page need = (p, v)) :
    Calls Try.prog 63 #[.slice A n c, .int .i64 page, .int .i64 need] w fun e w' => e = .returned (.tuple #[.int .i64 p, .bool v]) ∧ Below w.heap.size w w' := by
  unfold walkInner at hw
  by_cases h : (slotAt l page).1 = -1 ∨ enough (slotAt l page).2 need = false ∨ needOk need = false
  · rw [if_pos h] at hw
    obtain ⟨rfl, rfl⟩ : -1 = p ∧ false = v := by simpa using hw
    by_cases h1 : (slotAt l page).1 = -1
    · exact sWalkInner_1 (sp := (slotAt l page).1) (sr := (slotAt l page).2) A n c l page need w ha hn rfl (by rw [h1]; rfl)
    · have h1' : ((slotAt l page).1 == -1) = false := by rw [beq_eq_false_iff_ne]; exact h1
      cases h2 : enough (slotAt l page).2 need
      · exact sWalkInner_2 (sp := (slotAt l page).1) (sr := (slotAt l page).2) A n c l page need w ha hn rfl h1' h2
      · have h3 : needOk need = false := by
          rcases h with h | h | h
          · exact absurd h h1
          · rw [h2] at h; cases h
          · exact h
        exact sWalkInner_3 (sp := (slotAt l page).1) (sr := (slotAt l page).2) A n c l page need w ha hn rfl h1' h2 (by rw [need_zero h2, h3])
  · rw [if_neg h] at hw
    simp only [not_or, Bool.not_eq_false] at h
    obtain ⟨rfl, rfl⟩ : (slotAt l page).1 = p ∧ true = v := by simpa using hw
    exact sWalkInner_4 (sp := (slotAt l page).1) (sr := (slotAt l page).2) A n c l page need w ha hn rfl (by rw [beq_eq_false_iff_ne]; exact h.1) h.2.1 (by rw [need_zero h.2.1, h.2.2])
theorem iWalkInner_1 {sp sr : Int} (A : Option Addr) (n c : Nat) (l : List Sl) (page need : Int) (w : World) (ha : Rd w 2 A n (slotCells l)) (hn : n ≤ 1048576) (hS : slotAt l page = (sp, sr)) (h : (sp == -1) = true) :
    Calls Try.prog 62 #[.slice A n c, .int .i64 page, .int .i64 need] w fun e w' => e = .returned (.tuple #[.int .i64 (-1), .bool false]) ∧ Below w.heap.size w w' := by
  have HS := Lib.hid hS
  have H5 := Lib.hid (show enough sr need = enough sr need from rfl)
  have H6 := Lib.hid (show inB need 1 3 = inB need 1 3 from rfl)
  clear hS
  · skip
    go_enter Try.func62, Try.ntmps62
    go_wp2_with fail
    refine (iSlotAt_c A n c l page _ ha hn HS.out).mono ?_
    rintro e w1 ⟨rfl, hb1⟩
    have hb2 := hb1.alloc hb1.size (Obj.cells #[Value.int IntKind.i64 sp, Value.int IntKind.i64 sr] 41)
    go_wp2_with (first | (go_at_call 116; refine (iEnough_v H5.out _).mono ?_; rintro e w' ⟨rfl, rfl⟩) | (go_at_call 117; refine (within_v H6.out _).mono ?_; rintro e w' ⟨rfl, rfl⟩))
    go_ret2
    exact ⟨rfl, hb2⟩
theorem iWalkInner_2 {sp sr : Int} (A : Option Addr) (n c : Nat) (l : List Sl) (page need : Int) (w : World) (ha : Rd w 2 A n (slotCells l)) (hn : n ≤ 1048576) (hS : slotAt l page = (sp, sr)) (h : (sp == -1) = false) (h5 : enough sr need = false) :
    Calls Try.prog 62 #[.slice A n c, .int .i64 page, .int .i64 need] w fun e w' => e = .returned (.tuple #[.int .i64 (-1), .bool false]) ∧ Below w.heap.size w w' := by
  have HS := Lib.hid hS
  have H5 := Lib.hid h5
  have H6 := Lib.hid (show inB need 1 3 = inB need 1 3 from rfl)
  clear hS h5
  · skip
    go_enter Try.func62, Try.ntmps62
    go_wp2_with fail
    refine (iSlotAt_c A n c l page _ ha hn HS.out).mono ?_
    rintro e w1 ⟨rfl, hb1⟩
    have hb2 := hb1.alloc hb1.size (Obj.cells #[Value.int IntKind.i64 sp, Value.int IntKind.i64 sr] 41)
    go_wp2_with (first | (go_at_call 116; refine (iEnough_v H5.out _).mono ?_; rintro e w' ⟨rfl, rfl⟩) | (go_at_call 117; refine (within_v H6.out _).mono ?_; rintro e w' ⟨rfl, rfl⟩))
    go_ret2
    exact ⟨rfl, hb2⟩
theorem iWalkInner_3 {sp sr : Int} (A : Option Addr) (n c : Nat) (l : List Sl) (page need : Int) (w : World) (ha : Rd w 2 A n (slotCells l)) (hn : n ≤ 1048576) (hS : slotAt l page = (sp, sr)) (h : (sp == -1) = false) (h5 : enough sr need = true) (h6 : inB need 1 3 = false) :
    Calls Try.prog 62 #[.slice A n c, .int .i64 page, .int .i64 need] w fun e w' => e = .returned (.tuple #[.int .i64 (-1), .bool false]) ∧ Below w.heap.size w w' := by
  have HS := Lib.hid hS
  have H5 := Lib.hid h5
  clear hS h5
  have H6 := Lib.hid h6
  clear h6
  · skip
    go_enter Try.func62, Try.ntmps62
    go_wp2_with fail
    refine (iSlotAt_c A n c l page _ ha hn HS.out).mono ?_
    rintro e w1 ⟨rfl, hb1⟩
    have hb2 := hb1.alloc hb1.size (Obj.cells #[Value.int IntKind.i64 sp, Value.int IntKind.i64 sr] 41)
    go_wp2_with (first | (go_at_call 116; refine (iEnough_v H5.out _).mono ?_; rintro e w' ⟨rfl, rfl⟩) | (go_at_call 117; refine (within_v H6.out _).mono ?_; rintro e w' ⟨rfl, rfl⟩))
    go_ret2
    exact ⟨rfl, hb2⟩
theorem iWalkInner_4 {sp sr : Int} (A : Option Addr) (n c : Nat) (l : List Sl) (page need : Int) (w : World) (ha : Rd w 2 A n (slotCells l)) (hn : n ≤ 1048576) (hS : slotAt l page = (sp, sr)) (h : (sp == -1) = false) (h5 : enough sr need = true) (h6 : inB need 1 3 = true) :
    Calls Try.prog 62 #[.slice A n c, .int .i64 page, .int .i64 need] w fun e w' => e = .returned (.tuple #[.int .i64 sp, .bool true]) ∧ Below w.heap.size w w' := by
  have HS := Lib.hid hS
  have H5 := Lib.hid h5
  clear hS h5
  have H6 := Lib.hid h6
  clear h6
  · skip
    go_enter Try.func62, Try.ntmps62
    go_wp2_with fail
    refine (iSlotAt_c A n c l page _ ha hn HS.out).mono ?_
    rintro e w1 ⟨rfl, hb1⟩
    have hb2 := hb1.alloc hb1.size (Obj.cells #[Value.int IntKind.i64 sp, Value.int IntKind.i64 sr] 41)
    go_wp2_with (first | (go_at_call 116; refine (iEnough_v H5.out _).mono ?_; rintro e w' ⟨rfl, rfl⟩) | (go_at_call 117; refine (within_v H6.out _).mono ?_; rintro e w' ⟨rfl, rfl⟩))
    go_ret2
    exact ⟨rfl, hb2⟩
theorem iWalkInner_c {p : Int} {v : Bool} (A : Option Addr) (n c : Nat) (l : List Sl) (page need : Int) (w : World) (ha : Rd w 2 A n (slotCells l)) (hn : n ≤ 1048576) (hw : walkInner l page need = (p, v)) :
    Calls Try.prog 62 #[.slice A n c, .int .i64 page, .int .i64 need] w fun e w' => e = .returned (.tuple #[.int .i64 p, .bool v]) ∧ Below w.heap.size w w' := by
  unfold walkInner at hw
  by_cases h : (slotAt l page).1 = -1 ∨ enough (slotAt l page).2 need = false ∨ needOk need = false
  · rw [if_pos h] at hw
    obtain ⟨rfl, rfl⟩ : -1 = p ∧ false = v := by simpa using hw
    by_cases h1 : (slotAt l page).1 = -1
    · exact iWalkInner_1 (sp := (slotAt l page).1) (sr := (slotAt l page).2) A n c l page need w ha hn rfl (by rw [h1]; rfl)
    · have h1' : ((slotAt l page).1 == -1) = false := by rw [beq_eq_false_iff_ne]; exact h1
      cases h2 : enough (slotAt l page).2 need
      · exact iWalkInner_2 (sp := (slotAt l page).1) (sr := (slotAt l page).2) A n c l page need w ha hn rfl h1' h2
      · have h3 : needOk need = false := by
          rcases h with h | h | h
          · exact absurd h h1
          · rw [h2] at h; cases h
          · exact h
        exact iWalkInner_3 (sp := (slotAt l page).1) (sr := (slotAt l page).2) A n c l page need w ha hn rfl h1' h2 (by exact h3)
  · rw [if_neg h] at hw
    simp only [not_or, Bool.not_eq_false] at h
    obtain ⟨rfl, rfl⟩ : (slotAt l page).1 = p ∧ true = v := by simpa using hw
    exact iWalkInner_4 (sp := (slotAt l page).1) (sr := (slotAt l page).2) A n c l page need w ha hn rfl (by rw [beq_eq_false_iff_ne]; exact h.1) h.2.1 (by exact h.2.2)
theorem sWalk_1 {mid : Int} (A B : Option Addr) (n m c d : Nat) (l o : List Sl) (page need : Int) (w : World) (ha : Rd w 2 A n (slotCells l)) (hb : Rd w 2 B m (slotCells o)) (hn : n ≤ 1048576) (hm : m ≤ 1048576) (hW : walkInner l page need = (mid, false)) :
    Calls Try.prog 60 #[.slice A n c, .slice B m d, .int .i64 page, .int .i64 need] w fun e w' => e = .returned (.tuple #[.int .i64 (-1), .int .i64 1]) ∧ Below w.heap.size w w' := by
  have HW := Lib.hid hW
  clear hW
  · skip
    go_enter Try.func60, Try.ntmps60
    go_wp2_with fail
    refine (sWalkInner_c A n c l page need _ ha hn HW.out).mono ?_
    rintro e w1 ⟨rfl, hb1⟩
    go_wp2
    go_ret2
    exact ⟨rfl, hb1⟩
theorem sWalk_2 {mid sp sr : Int} (A B : Option Addr) (n m c d : Nat) (l o : List Sl) (page need : Int) (w : World) (ha : Rd w 2 A n (slotCells l)) (hb : Rd w 2 B m (slotCells o)) (hn : n ≤ 1048576) (hm : m ≤ 1048576) (hW : walkInner l page need = (mid, true)) (hS : slotAt o mid = (sp, sr)) (v5 : Bool) (h5 : enough sr need = v5) (h : (sp == -1) = true ∨ (sp == -1) = false ∧ v5 = false) :
    Calls Try.prog 60 #[.slice A n c, .slice B m d, .int .i64 page, .int .i64 need] w fun e w' => e = .returned (.tuple #[.int .i64 (-1), .int .i64 2]) ∧ Below w.heap.size w w' := by
  have HW := Lib.hid hW
  have HS := Lib.hid hS
  have H5 := Lib.hid h5
  clear hW hS h5
  rcases h with h1 | ⟨h1, rfl⟩
  all_goals
    go_enter Try.func60, Try.ntmps60
    go_wp2_with fail
    refine (sWalkInner_c A n c l page need _ ha hn HW.out).mono ?_
    rintro e w1 ⟨rfl, hb1⟩
    go_wp2_with fail
    refine (sSlotAt_c B m d o mid _ (hb.below hb1) hm HS.out).mono ?_
    rintro e w2 ⟨rfl, hb2⟩
    have hb3 := (hb1.trans (hb2.mono hb1.size)).alloc (Nat.le_trans hb1.size hb2.size) (Obj.cells #[Value.int IntKind.i64 sp, Value.int IntKind.i64 sr] 41)
    go_wp2_with (go_at_call 67; refine (sEnough_v H5.out _).mono ?_; rintro e w' ⟨rfl, rfl⟩)
    go_ret2
    exact ⟨rfl, hb3⟩
theorem sWalk_3 {mid sp sr : Int} (A B : Option Addr) (n m c d : Nat) (l o : List Sl) (page need : Int) (w : World) (ha : Rd w 2 A n (slotCells l)) (hb : Rd w 2 B m (slotCells o)) (hn : n ≤ 1048576) (hm : m ≤ 1048576) (hW : walkInner l page need = (mid, true)) (hS : slotAt o mid = (sp, sr)) (h5 : enough sr need = true) (h : (sp == -1) = false) :
    Calls Try.prog 60 #[.slice A n c, .slice B m d, .int .i64 page, .int .i64 need] w fun e w' => e = .returned (.tuple #[.int .i64 sp, .int .i64 0]) ∧ Below w.heap.size w w' := by
  have HW := Lib.hid hW
  have HS := Lib.hid hS
  have H5 := Lib.hid h5
  clear hW hS h5
  · skip
    go_enter Try.func60, Try.ntmps60
    go_wp2_with fail
    refine (sWalkInner_c A n c l page need _ ha hn HW.out).mono ?_
    rintro e w1 ⟨rfl, hb1⟩
    go_wp2_with fail
    refine (sSlotAt_c B m d o mid _ (hb.below hb1) hm HS.out).mono ?_
    rintro e w2 ⟨rfl, hb2⟩
    have hb3 := (hb1.trans (hb2.mono hb1.size)).alloc (Nat.le_trans hb1.size hb2.size) (Obj.cells #[Value.int IntKind.i64 sp, Value.int IntKind.i64 sr] 41)
    go_wp2_with (go_at_call 67; refine (sEnough_v H5.out _).mono ?_; rintro e w' ⟨rfl, rfl⟩)
    go_ret2
    exact ⟨rfl, hb3⟩
theorem sWalk_c {p k : Int} (A B : Option Addr) (n m c d : Nat) (l o : List Sl) (page need : Int) (w : World) (ha : Rd w 2 A n (slotCells l)) (hb : Rd w 2 B m (slotCells o)) (hn : n ≤ 1048576) (hm : m ≤ 1048576) (hw : walkS l o page need = (p, k)) :
    Calls Try.prog 60 #[.slice A n c, .slice B m d, .int .i64 page, .int .i64 need] w fun e w' => e = .returned (.tuple #[.int .i64 p, .int .i64 k]) ∧ Below w.heap.size w w' := by
  unfold walkS at hw
  obtain ⟨mid, v, hW⟩ : ∃ mid v, walkInner l page need = (mid, v) := ⟨_, _, rfl⟩
  rw [hW] at hw
  cases v
  · rw [if_pos rfl] at hw
    obtain ⟨rfl, rfl⟩ : -1 = p ∧ 1 = k := by simpa using hw
    exact sWalk_1 A B n m c d l o page need w ha hb hn hm hW
  · rw [if_neg (by simp)] at hw
    simp only at hw
    by_cases h : (slotAt o mid).1 = -1 ∨ enough (slotAt o mid).2 need = false
    · rw [if_pos h] at hw
      obtain ⟨rfl, rfl⟩ : -1 = p ∧ 2 = k := by simpa using hw
      refine sWalk_2 (sp := (slotAt o mid).1) (sr := (slotAt o mid).2) A B n m c d l o page need w ha hb hn hm hW rfl _ rfl ?_
      by_cases h1 : (slotAt o mid).1 = -1
      · exact .inl (by rw [h1]; rfl)
      · refine .inr ⟨by rw [beq_eq_false_iff_ne]; exact h1, ?_⟩
        rcases h with h | h
        · exact absurd h h1
        · exact h
    · rw [if_neg h] at hw
      simp only [not_or, Bool.not_eq_false] at h
      obtain ⟨rfl, rfl⟩ : (slotAt o mid).1 = p ∧ 0 = k := by simpa using hw
      exact sWalk_3 (sp := (slotAt o mid).1) (sr := (slotAt o mid).2) A B n m c d l o page need w ha hb hn hm hW rfl h.2 (by rw [beq_eq_false_iff_ne]; exact h.1)
theorem iWalk_1 {mid : Int} (A B : Option Addr) (n m c d : Nat) (l o : List Sl) (page need : Int) (w : World) (ha : Rd w 2 A n (slotCells l)) (hb : Rd w 2 B m (slotCells o)) (hn : n ≤ 1048576) (hm : m ≤ 1048576) (hW : walkInner l page need = (mid, false)) :
    Calls Try.prog 59 #[.slice A n c, .slice B m d, .int .i64 page, .int .i64 need] w fun e w' => e = .returned (.tuple #[.int .i64 (-1), .int .i64 1]) ∧ Below w.heap.size w w' := by
  have HW := Lib.hid hW
  clear hW
  · skip
    go_enter Try.func59, Try.ntmps59
    go_wp2_with fail
    refine (iWalkInner_c A n c l page need _ ha hn HW.out).mono ?_
    rintro e w1 ⟨rfl, hb1⟩
    go_wp2
    go_ret2
    exact ⟨rfl, hb1⟩
theorem iWalk_2 {mid sp sr : Int} (A B : Option Addr) (n m c d : Nat) (l o : List Sl) (page need : Int) (w : World) (ha : Rd w 2 A n (slotCells l)) (hb : Rd w 2 B m (slotCells o)) (hn : n ≤ 1048576) (hm : m ≤ 1048576) (hW : walkInner l page need = (mid, true)) (hS : slotAt o mid = (sp, sr)) (v5 : Bool) (h5 : enough sr need = v5) (h : (sp == -1) = true ∨ (sp == -1) = false ∧ v5 = false) :
    Calls Try.prog 59 #[.slice A n c, .slice B m d, .int .i64 page, .int .i64 need] w fun e w' => e = .returned (.tuple #[.int .i64 (-1), .int .i64 2]) ∧ Below w.heap.size w w' := by
  have HW := Lib.hid hW
  have HS := Lib.hid hS
  have H5 := Lib.hid h5
  clear hW hS h5
  rcases h with h1 | ⟨h1, rfl⟩
  all_goals
    go_enter Try.func59, Try.ntmps59
    go_wp2_with fail
    refine (iWalkInner_c A n c l page need _ ha hn HW.out).mono ?_
    rintro e w1 ⟨rfl, hb1⟩
    go_wp2_with fail
    refine (iSlotAt_c B m d o mid _ (hb.below hb1) hm HS.out).mono ?_
    rintro e w2 ⟨rfl, hb2⟩
    have hb3 := (hb1.trans (hb2.mono hb1.size)).alloc (Nat.le_trans hb1.size hb2.size) (Obj.cells #[Value.int IntKind.i64 sp, Value.int IntKind.i64 sr] 41)
    go_wp2_with (go_at_call 116; refine (iEnough_v H5.out _).mono ?_; rintro e w' ⟨rfl, rfl⟩)
    go_ret2
    exact ⟨rfl, hb3⟩
theorem iWalk_3 {mid sp sr : Int} (A B : Option Addr) (n m c d : Nat) (l o : List Sl) (page need : Int) (w : World) (ha : Rd w 2 A n (slotCells l)) (hb : Rd w 2 B m (slotCells o)) (hn : n ≤ 1048576) (hm : m ≤ 1048576) (hW : walkInner l page need = (mid, true)) (hS : slotAt o mid = (sp, sr)) (h5 : enough sr need = true) (h : (sp == -1) = false) :
    Calls Try.prog 59 #[.slice A n c, .slice B m d, .int .i64 page, .int .i64 need] w fun e w' => e = .returned (.tuple #[.int .i64 sp, .int .i64 0]) ∧ Below w.heap.size w w' := by
  have HW := Lib.hid hW
  have HS := Lib.hid hS
  have H5 := Lib.hid h5
  clear hW hS h5
  · skip
    go_enter Try.func59, Try.ntmps59
    go_wp2_with fail
    refine (iWalkInner_c A n c l page need _ ha hn HW.out).mono ?_
    rintro e w1 ⟨rfl, hb1⟩
    go_wp2_with fail
    refine (iSlotAt_c B m d o mid _ (hb.below hb1) hm HS.out).mono ?_
    rintro e w2 ⟨rfl, hb2⟩
    have hb3 := (hb1.trans (hb2.mono hb1.size)).alloc (Nat.le_trans hb1.size hb2.size) (Obj.cells #[Value.int IntKind.i64 sp, Value.int IntKind.i64 sr] 41)
    go_wp2_with (go_at_call 116; refine (iEnough_v H5.out _).mono ?_; rintro e w' ⟨rfl, rfl⟩)
    go_ret2
    exact ⟨rfl, hb3⟩
theorem iWalk_c {p k : Int} (A B : Option Addr) (n m c d : Nat) (l o : List Sl) (page need : Int) (w : World) (ha : Rd w 2 A n (slotCells l)) (hb : Rd w 2 B m (slotCells o)) (hn : n ≤ 1048576) (hm : m ≤ 1048576) (hw : walkS l o page need = (p, k)) :
    Calls Try.prog 59 #[.slice A n c, .slice B m d, .int .i64 page, .int .i64 need] w fun e w' => e = .returned (.tuple #[.int .i64 p, .int .i64 k]) ∧ Below w.heap.size w w' := by
  unfold walkS at hw
  obtain ⟨mid, v, hW⟩ : ∃ mid v, walkInner l page need = (mid, v) := ⟨_, _, rfl⟩
  rw [hW] at hw
  cases v
  · rw [if_pos rfl] at hw
    obtain ⟨rfl, rfl⟩ : -1 = p ∧ 1 = k := by simpa using hw
    exact iWalk_1 A B n m c d l o page need w ha hb hn hm hW
  · rw [if_neg (by simp)] at hw
    simp only at hw
    by_cases h : (slotAt o mid).1 = -1 ∨ enough (slotAt o mid).2 need = false
    · rw [if_pos h] at hw
      obtain ⟨rfl, rfl⟩ : -1 = p ∧ 2 = k := by simpa using hw
      refine iWalk_2 (sp := (slotAt o mid).1) (sr := (slotAt o mid).2) A B n m c d l o page need w ha hb hn hm hW rfl _ rfl ?_
      by_cases h1 : (slotAt o mid).1 = -1
      · exact .inl (by rw [h1]; rfl)
      · refine .inr ⟨by rw [beq_eq_false_iff_ne]; exact h1, ?_⟩
        rcases h with h | h
        · exact absurd h h1
        · exact h
    · rw [if_neg h] at hw
      simp only [not_or, Bool.not_eq_false] at h
      obtain ⟨rfl, rfl⟩ : (slotAt o mid).1 = p ∧ 0 = k := by simpa using hw
      exact iWalk_3 (sp := (slotAt o mid).1) (sr := (slotAt o mid).2) A B n m c d l o page need w ha hb hn hm hW rfl h.2 (by rw [beq_eq_false_iff_ne]; exact h.1)
end Go.Proofs.Ytlfnhfipnjgifaa
