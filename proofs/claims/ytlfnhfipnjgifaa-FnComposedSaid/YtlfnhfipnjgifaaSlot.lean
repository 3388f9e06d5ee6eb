/- Contracts of the functions of single slots: each returns what its plain function says and makes at most new memory. No condition but that a number of pages fits its kind. -/
import Derived.Test.YtlfnhfipnjgifaaInt
import Derived.Outline
namespace Go.Proofs.Ytlfnhfipnjgifaa
open Go.RowKit
set_option linter.unusedVariables false
set_option maxHeartbeats 1000000

theorem sNoSlot_c (w : World) : Calls Try.prog 85 #[] w fun e w' => e = .returned (.agg #[.int .i64 (-1), .int .i64 0]) ∧ Below w.heap.size w w' := by
  go_enter Try.func85, Try.ntmps85
  go_wp2
  go_returns
  exact ⟨rfl, by go_grown⟩
theorem iNoSlot_c (w : World) : Calls Try.prog 84 #[] w fun e w' => e = .returned (.agg #[.int .i64 (-1), .int .i64 0]) ∧ Below w.heap.size w w' := by
  go_enter Try.func84, Try.ntmps84
  go_wp2
  go_returns
  exact ⟨rfl, by go_grown⟩
theorem eqSlot_c (p r q s : Int) (w : World) : Calls Try.prog 31 #[.agg #[.int .i64 p, .int .i64 r], .agg #[.int .i64 q, .int .i64 s]] w fun e w' => e = .returned (.bool (slEq p r q s)) ∧ Below w.heap.size w w' := by
  cases h1 : (p == q) <;> cases h2 : (r == s)
  all_goals
    go_enter Try.func31, Try.ntmps31
    go_wp2
    go_ret
    exact ⟨by simp [slEq, h1, h2], by go_grown⟩
theorem toSlot_c (p r : Int) (w : World) : Calls Try.prog 105 #[.agg #[.int .i64 p, .int .i64 r]] w fun e w' => e = .returned (.agg #[.int .i64 p, .int .i64 r]) ∧ Below w.heap.size w w' := by
  go_enter Try.func105, Try.ntmps105
  go_wp2
  go_returns
  exact ⟨rfl, by go_grown⟩
theorem sSlotOk_1 (p r pages : Int) (v5 v6 : Bool) (w : World) (h1 : (p == -1) = true) (h2 : (r == 0) = true) (h5 : inB p 0 pages = v5) (h6 : inB r 1 3 = v6) : Calls Try.prog 81 #[.agg #[.int .i64 p, .int .i64 r], .int .i64 pages] w fun e w' => e = .returned (.bool true) ∧ Below w.heap.size w w' := by
  have hid5 := Lib.hid h5
  have hid6 := Lib.hid h6
  clear h5 h6
  · skip
    go_enter Try.func81, Try.ntmps81
    go_wp2_with fail
    have c0 : ∀ x : Ext (w.alloc (Obj.cells #[Value.int IntKind.i64 p, Value.int IntKind.i64 r] 41)), x.w.cell? ⟨w.heap.size, 0, none⟩ = some (.int .i64 p) := fun x => (x.cell (by simp)).trans (by simp [go_sem])
    have c1 : ∀ x : Ext (w.alloc (Obj.cells #[Value.int IntKind.i64 p, Value.int IntKind.i64 r] 41)), x.w.cell? ⟨w.heap.size, 1, none⟩ = some (.int .i64 r) := fun x => (x.cell (by simp)).trans (by simp [go_sem])
    refine wp_region_ext (by kernel_rfl) (by kernel_rfl) ?_
    repeat (go_big_quiet_step (first | (go_at_call 85; exact Ext.call _ (sNoSlot_c _)) | (go_at_call 118; with_reducible exact Ext.same _ (l01In_v hid5.out _)) | (go_at_call 118; with_reducible exact Ext.same _ (l01In_v hid6.out _))))
    refine wpQuiet_nil ?_
    intro _ hw'
    obtain ⟨x, rfl⟩ := hw'
    have hb : Below w.heap.size w x.w := ((Below.refl _ _).alloc (Nat.le_refl _) _).trans (x.below.mono (by simp))
    go_wp2
    go_ret
    exact ⟨rfl, hb⟩
theorem sSlotOk_2 (p r pages : Int) (v5 v6 : Bool) (w : World) (hne : (p == -1) = false ∨ (p == -1) = true ∧ (r == 0) = false) (hp : 0 < pages) (hq : pages ≤ 9223372036854775807) (h5 : inB p 0 (pages - 1) = v5) (h6 : inB r 1 3 = v6) :
    Calls Try.prog 81 #[.agg #[.int .i64 p, .int .i64 r], .int .i64 pages] w fun e w' => e = .returned (.bool (v5 && v6)) ∧ Below w.heap.size w w' := by
  have hid5 := Lib.hid h5
  have hid6 := Lib.hid h6
  clear h5 h6
  rcases hne with h1 | ⟨h1, h2⟩ <;> cases v5 <;> cases v6
  all_goals
    go_enter Try.func81, Try.ntmps81
    go_wp2_with fail
    have c0 : ∀ x : Ext (w.alloc (Obj.cells #[Value.int IntKind.i64 p, Value.int IntKind.i64 r] 41)), x.w.cell? ⟨w.heap.size, 0, none⟩ = some (.int .i64 p) := fun x => (x.cell (by simp)).trans (by simp [go_sem])
    have c1 : ∀ x : Ext (w.alloc (Obj.cells #[Value.int IntKind.i64 p, Value.int IntKind.i64 r] 41)), x.w.cell? ⟨w.heap.size, 1, none⟩ = some (.int .i64 r) := fun x => (x.cell (by simp)).trans (by simp [go_sem])
    refine wp_region_ext (by kernel_rfl) (by kernel_rfl) ?_
    repeat (go_big_quiet_step (first | (go_at_call 85; exact Ext.call _ (sNoSlot_c _)) | (go_at_call 118; with_reducible exact Ext.same _ (l01In_v hid5.out _)) | (go_at_call 118; with_reducible exact Ext.same _ (l01In_v hid6.out _))))
    refine wpQuiet_nil ?_
    intro _ hw'
    obtain ⟨x, rfl⟩ := hw'
    have hb : Below w.heap.size w x.w := ((Below.refl _ _).alloc (Nat.le_refl _) _).trans (x.below.mono (by simp))
    go_wp2
    go_ret
    exact ⟨rfl, hb⟩
theorem sSlotOk_3 (p r pages : Int) (v5 v6 : Bool) (w : World) (hne : (p == -1) = false ∨ (p == -1) = true ∧ (r == 0) = false) (hp : pages ≤ 0) (h5 : inB p 0 (wrap64 (pages - 1)) = v5) (h6 : inB r 1 3 = v6) :
    Calls Try.prog 81 #[.agg #[.int .i64 p, .int .i64 r], .int .i64 pages] w fun e w' => e = .returned (.bool false) ∧ Below w.heap.size w w' := by
  have hid5 := Lib.hid h5
  have hid6 := Lib.hid h6
  clear h5 h6
  have hpd : decide (0 < pages) = false := by simp; omega
  rcases hne with h1 | ⟨h1, h2⟩ <;> cases v5
  all_goals
    go_enter Try.func81, Try.ntmps81
    go_wp2_with fail
    have c0 : ∀ x : Ext (w.alloc (Obj.cells #[Value.int IntKind.i64 p, Value.int IntKind.i64 r] 41)), x.w.cell? ⟨w.heap.size, 0, none⟩ = some (.int .i64 p) := fun x => (x.cell (by simp)).trans (by simp [go_sem])
    have c1 : ∀ x : Ext (w.alloc (Obj.cells #[Value.int IntKind.i64 p, Value.int IntKind.i64 r] 41)), x.w.cell? ⟨w.heap.size, 1, none⟩ = some (.int .i64 r) := fun x => (x.cell (by simp)).trans (by simp [go_sem])
    refine wp_region_ext (by kernel_rfl) (by kernel_rfl) ?_
    repeat (go_big_quiet_step (first | (go_at_call 85; exact Ext.call _ (sNoSlot_c _)) | (go_at_call 118; with_reducible exact Ext.same _ (l01In_v hid5.out _)) | (go_at_call 118; with_reducible exact Ext.same _ (l01In_v hid6.out _))))
    refine wpQuiet_nil ?_
    intro _ hw'
    obtain ⟨x, rfl⟩ := hw'
    have hb : Below w.heap.size w x.w := ((Below.refl _ _).alloc (Nat.le_refl _) _).trans (x.below.mono (by simp))
    go_wp2
    go_ret
    exact ⟨rfl, hb⟩
theorem sSlotOk_c (p r pages : Int) (w : World) (hq : pages ≤ 9223372036854775807) : Calls Try.prog 81 #[.agg #[.int .i64 p, .int .i64 r], .int .i64 pages] w fun e w' => e = .returned (.bool (slotOk (p, r) pages)) ∧ Below w.heap.size w w' := by
  by_cases he : p = -1 ∧ r = 0
  · obtain ⟨h1, h2⟩ := he
    exact (sSlotOk_1 p r pages _ _ w (by simp [h1]) (by simp [h2]) rfl rfl).mono fun _ _ ⟨a, b⟩ => ⟨by rw [a]; simp [slotOk, slEq, h1, h2], b⟩
  · have hne : (p == -1) = false ∨ (p == -1) = true ∧ (r == 0) = false := by
      by_cases h : p = -1
      · exact .inr ⟨by simp [h], by simp; omega⟩
      · exact .inl (by simp [h])
    have hs : slEq p r (-1) 0 = false := by cases h : slEq p r (-1) 0 <;> simp_all [slEq]
    by_cases hp : 0 < pages
    · exact (sSlotOk_2 p r pages _ _ w hne hp hq rfl rfl).mono fun _ _ ⟨a, b⟩ => ⟨by rw [a]; simp [slotOk, hs, hp], b⟩
    · exact (sSlotOk_3 p r pages _ _ w hne (by omega) rfl rfl).mono fun _ _ ⟨a, b⟩ => ⟨by rw [a]; simp [slotOk, hs, hp], b⟩
theorem iSlotOk_1 (p r pages : Int) (v5 v6 : Bool) (w : World) (h1 : (p == -1) = true) (h2 : (r == 0) = true) (h5 : inB p 0 pages = v5) (h6 : inB r 1 3 = v6) : Calls Try.prog 80 #[.agg #[.int .i64 p, .int .i64 r], .int .i64 pages] w fun e w' => e = .returned (.bool true) ∧ Below w.heap.size w w' := by
  have hid5 := Lib.hid h5
  have hid6 := Lib.hid h6
  clear h5 h6
  · skip
    go_enter Try.func80, Try.ntmps80
    go_wp2_with fail
    have c0 : ∀ x : Ext (w.alloc (Obj.cells #[Value.int IntKind.i64 p, Value.int IntKind.i64 r] 41)), x.w.cell? ⟨w.heap.size, 0, none⟩ = some (.int .i64 p) := fun x => (x.cell (by simp)).trans (by simp [go_sem])
    have c1 : ∀ x : Ext (w.alloc (Obj.cells #[Value.int IntKind.i64 p, Value.int IntKind.i64 r] 41)), x.w.cell? ⟨w.heap.size, 1, none⟩ = some (.int .i64 r) := fun x => (x.cell (by simp)).trans (by simp [go_sem])
    refine wp_region_ext (by kernel_rfl) (by kernel_rfl) ?_
    repeat (go_big_quiet_step (first | (go_at_call 84; exact Ext.call _ (iNoSlot_c _)) | (go_at_call 117; with_reducible exact Ext.same _ (within_v hid5.out _)) | (go_at_call 117; with_reducible exact Ext.same _ (within_v hid6.out _))))
    refine wpQuiet_nil ?_
    intro _ hw'
    obtain ⟨x, rfl⟩ := hw'
    have hb : Below w.heap.size w x.w := ((Below.refl _ _).alloc (Nat.le_refl _) _).trans (x.below.mono (by simp))
    go_wp2
    go_ret
    exact ⟨rfl, hb⟩
theorem iSlotOk_2 (p r pages : Int) (v5 v6 : Bool) (w : World) (hne : (p == -1) = false ∨ (p == -1) = true ∧ (r == 0) = false) (hp : 0 < pages) (hq : pages ≤ 9223372036854775807) (h5 : inB p 0 (pages - 1) = v5) (h6 : inB r 1 3 = v6) :
    Calls Try.prog 80 #[.agg #[.int .i64 p, .int .i64 r], .int .i64 pages] w fun e w' => e = .returned (.bool (v5 && v6)) ∧ Below w.heap.size w w' := by
  have hid5 := Lib.hid h5
  have hid6 := Lib.hid h6
  clear h5 h6
  rcases hne with h1 | ⟨h1, h2⟩ <;> cases v5 <;> cases v6
  all_goals
    go_enter Try.func80, Try.ntmps80
    go_wp2_with fail
    have c0 : ∀ x : Ext (w.alloc (Obj.cells #[Value.int IntKind.i64 p, Value.int IntKind.i64 r] 41)), x.w.cell? ⟨w.heap.size, 0, none⟩ = some (.int .i64 p) := fun x => (x.cell (by simp)).trans (by simp [go_sem])
    have c1 : ∀ x : Ext (w.alloc (Obj.cells #[Value.int IntKind.i64 p, Value.int IntKind.i64 r] 41)), x.w.cell? ⟨w.heap.size, 1, none⟩ = some (.int .i64 r) := fun x => (x.cell (by simp)).trans (by simp [go_sem])
    refine wp_region_ext (by kernel_rfl) (by kernel_rfl) ?_
    repeat (go_big_quiet_step (first | (go_at_call 84; exact Ext.call _ (iNoSlot_c _)) | (go_at_call 117; with_reducible exact Ext.same _ (within_v hid5.out _)) | (go_at_call 117; with_reducible exact Ext.same _ (within_v hid6.out _))))
    refine wpQuiet_nil ?_
    intro _ hw'
    obtain ⟨x, rfl⟩ := hw'
    have hb : Below w.heap.size w x.w := ((Below.refl _ _).alloc (Nat.le_refl _) _).trans (x.below.mono (by simp))
    go_wp2
    go_ret
    exact ⟨rfl, hb⟩
theorem iSlotOk_3 (p r pages : Int) (v5 v6 : Bool) (w : World) (hne : (p == -1) = false ∨ (p == -1) = true ∧ (r == 0) = false) (hp : pages ≤ 0) (h5 : inB p 0 (wrap64 (pages - 1)) = v5) (h6 : inB r 1 3 = v6) :
    Calls Try.prog 80 #[.agg #[.int .i64 p, .int .i64 r], .int .i64 pages] w fun e w' => e = .returned (.bool false) ∧ Below w.heap.size w w' := by
  have hid5 := Lib.hid h5
  have hid6 := Lib.hid h6
  clear h5 h6
  have hpd : decide (0 < pages) = false := by simp; omega
  rcases hne with h1 | ⟨h1, h2⟩ <;> cases v5
  all_goals
    go_enter Try.func80, Try.ntmps80
    go_wp2_with fail
    have c0 : ∀ x : Ext (w.alloc (Obj.cells #[Value.int IntKind.i64 p, Value.int IntKind.i64 r] 41)), x.w.cell? ⟨w.heap.size, 0, none⟩ = some (.int .i64 p) := fun x => (x.cell (by simp)).trans (by simp [go_sem])
    have c1 : ∀ x : Ext (w.alloc (Obj.cells #[Value.int IntKind.i64 p, Value.int IntKind.i64 r] 41)), x.w.cell? ⟨w.heap.size, 1, none⟩ = some (.int .i64 r) := fun x => (x.cell (by simp)).trans (by simp [go_sem])
    refine wp_region_ext (by kernel_rfl) (by kernel_rfl) ?_
    repeat (go_big_quiet_step (first | (go_at_call 84; exact Ext.call _ (iNoSlot_c _)) | (go_at_call 117; with_reducible exact Ext.same _ (within_v hid5.out _)) | (go_at_call 117; with_reducible exact Ext.same _ (within_v hid6.out _))))
    refine wpQuiet_nil ?_
    intro _ hw'
    obtain ⟨x, rfl⟩ := hw'
    have hb : Below w.heap.size w x.w := ((Below.refl _ _).alloc (Nat.le_refl _) _).trans (x.below.mono (by simp))
    go_wp2
    go_ret
    exact ⟨rfl, hb⟩
theorem iSlotOk_c (p r pages : Int) (w : World) (hq : pages ≤ 9223372036854775807) : Calls Try.prog 80 #[.agg #[.int .i64 p, .int .i64 r], .int .i64 pages] w fun e w' => e = .returned (.bool (slotOk (p, r) pages)) ∧ Below w.heap.size w w' := by
  by_cases he : p = -1 ∧ r = 0
  · obtain ⟨h1, h2⟩ := he
    exact (iSlotOk_1 p r pages _ _ w (by simp [h1]) (by simp [h2]) rfl rfl).mono fun _ _ ⟨a, b⟩ => ⟨by rw [a]; simp [slotOk, slEq, h1, h2], b⟩
  · have hne : (p == -1) = false ∨ (p == -1) = true ∧ (r == 0) = false := by
      by_cases h : p = -1
      · exact .inr ⟨by simp [h], by simp; omega⟩
      · exact .inl (by simp [h])
    have hs : slEq p r (-1) 0 = false := by cases h : slEq p r (-1) 0 <;> simp_all [slEq]
    by_cases hp : 0 < pages
    · exact (iSlotOk_2 p r pages _ _ w hne hp hq rfl rfl).mono fun _ _ ⟨a, b⟩ => ⟨by rw [a]; simp [slotOk, hs, hp], b⟩
    · exact (iSlotOk_3 p r pages _ _ w hne (by omega) rfl rfl).mono fun _ _ ⟨a, b⟩ => ⟨by rw [a]; simp [slotOk, hs, hp], b⟩
theorem sBelow_1 (p r q s : Int) (v : Bool) (w : World) (h1 : (p == -1) = true) (h2 : (r == 0) = true) (h5 : enough s r = v) : Calls Try.prog 91 #[.agg #[.int .i64 p, .int .i64 r], .agg #[.int .i64 q, .int .i64 s]] w fun e w' => e = .returned (.bool true) ∧ Below w.heap.size w w' := by
  have hid5 := Lib.hid h5
  clear h5
  · skip
    go_enter Try.func91, Try.ntmps91
    go_wp2_with fail
    have c0 : ∀ x : Ext ((w.alloc (Obj.cells #[Value.int IntKind.i64 p, Value.int IntKind.i64 r] 41)).alloc (Obj.cells #[Value.int IntKind.i64 q, Value.int IntKind.i64 s] 41)), x.w.cell? ⟨w.heap.size, 0, none⟩ = some (.int .i64 p) := fun x => (x.cell (by simp; omega)).trans (by simp [go_sem])
    have c1 : ∀ x : Ext ((w.alloc (Obj.cells #[Value.int IntKind.i64 p, Value.int IntKind.i64 r] 41)).alloc (Obj.cells #[Value.int IntKind.i64 q, Value.int IntKind.i64 s] 41)), x.w.cell? ⟨w.heap.size, 1, none⟩ = some (.int .i64 r) := fun x => (x.cell (by simp; omega)).trans (by simp [go_sem])
    have c2 : ∀ x : Ext ((w.alloc (Obj.cells #[Value.int IntKind.i64 p, Value.int IntKind.i64 r] 41)).alloc (Obj.cells #[Value.int IntKind.i64 q, Value.int IntKind.i64 s] 41)), x.w.cell? ⟨w.heap.size + 1, 0, none⟩ = some (.int .i64 q) := fun x => (x.cell (by simp)).trans (by simp [go_sem])
    have c3 : ∀ x : Ext ((w.alloc (Obj.cells #[Value.int IntKind.i64 p, Value.int IntKind.i64 r] 41)).alloc (Obj.cells #[Value.int IntKind.i64 q, Value.int IntKind.i64 s] 41)), x.w.cell? ⟨w.heap.size + 1, 1, none⟩ = some (.int .i64 s) := fun x => (x.cell (by simp)).trans (by simp [go_sem])
    refine wp_region_ext (by kernel_rfl) (by kernel_rfl) ?_
    repeat (go_big_quiet_step (first | (go_at_call 85; exact Ext.call _ (sNoSlot_c _)) | (go_at_call 67; with_reducible exact Ext.same _ (sEnough_v hid5.out _))))
    refine wpQuiet_nil ?_
    intro _ hw'
    obtain ⟨x, rfl⟩ := hw'
    have hb : Below w.heap.size w x.w := (((Below.refl _ _).alloc (Nat.le_refl _) _).alloc (by simp) _).trans (x.below.mono (by simp; omega))
    go_wp2
    go_ret
    exact ⟨rfl, hb⟩
theorem sBelow_2 (p r q s : Int) (v : Bool) (w : World) (hne : (p == -1) = false ∨ (p == -1) = true ∧ (r == 0) = false) (h3 : (p == q) = true) (h5 : enough s r = v) : Calls Try.prog 91 #[.agg #[.int .i64 p, .int .i64 r], .agg #[.int .i64 q, .int .i64 s]] w fun e w' => e = .returned (.bool v) ∧ Below w.heap.size w w' := by
  have hid5 := Lib.hid h5
  clear h5
  rcases hne with h1 | ⟨h1, h2⟩
  all_goals
    go_enter Try.func91, Try.ntmps91
    go_wp2_with fail
    have c0 : ∀ x : Ext ((w.alloc (Obj.cells #[Value.int IntKind.i64 p, Value.int IntKind.i64 r] 41)).alloc (Obj.cells #[Value.int IntKind.i64 q, Value.int IntKind.i64 s] 41)), x.w.cell? ⟨w.heap.size, 0, none⟩ = some (.int .i64 p) := fun x => (x.cell (by simp; omega)).trans (by simp [go_sem])
    have c1 : ∀ x : Ext ((w.alloc (Obj.cells #[Value.int IntKind.i64 p, Value.int IntKind.i64 r] 41)).alloc (Obj.cells #[Value.int IntKind.i64 q, Value.int IntKind.i64 s] 41)), x.w.cell? ⟨w.heap.size, 1, none⟩ = some (.int .i64 r) := fun x => (x.cell (by simp; omega)).trans (by simp [go_sem])
    have c2 : ∀ x : Ext ((w.alloc (Obj.cells #[Value.int IntKind.i64 p, Value.int IntKind.i64 r] 41)).alloc (Obj.cells #[Value.int IntKind.i64 q, Value.int IntKind.i64 s] 41)), x.w.cell? ⟨w.heap.size + 1, 0, none⟩ = some (.int .i64 q) := fun x => (x.cell (by simp)).trans (by simp [go_sem])
    have c3 : ∀ x : Ext ((w.alloc (Obj.cells #[Value.int IntKind.i64 p, Value.int IntKind.i64 r] 41)).alloc (Obj.cells #[Value.int IntKind.i64 q, Value.int IntKind.i64 s] 41)), x.w.cell? ⟨w.heap.size + 1, 1, none⟩ = some (.int .i64 s) := fun x => (x.cell (by simp)).trans (by simp [go_sem])
    refine wp_region_ext (by kernel_rfl) (by kernel_rfl) ?_
    repeat (go_big_quiet_step (first | (go_at_call 85; exact Ext.call _ (sNoSlot_c _)) | (go_at_call 67; with_reducible exact Ext.same _ (sEnough_v hid5.out _))))
    refine wpQuiet_nil ?_
    intro _ hw'
    obtain ⟨x, rfl⟩ := hw'
    have hb : Below w.heap.size w x.w := (((Below.refl _ _).alloc (Nat.le_refl _) _).alloc (by simp) _).trans (x.below.mono (by simp; omega))
    go_wp2
    go_ret
    exact ⟨rfl, hb⟩
theorem sBelow_3 (p r q s : Int) (v : Bool) (w : World) (hne : (p == -1) = false ∨ (p == -1) = true ∧ (r == 0) = false) (h3 : (p == q) = false) (h5 : enough s r = v) : Calls Try.prog 91 #[.agg #[.int .i64 p, .int .i64 r], .agg #[.int .i64 q, .int .i64 s]] w fun e w' => e = .returned (.bool false) ∧ Below w.heap.size w w' := by
  have hid5 := Lib.hid h5
  clear h5
  rcases hne with h1 | ⟨h1, h2⟩
  all_goals
    go_enter Try.func91, Try.ntmps91
    go_wp2_with fail
    have c0 : ∀ x : Ext ((w.alloc (Obj.cells #[Value.int IntKind.i64 p, Value.int IntKind.i64 r] 41)).alloc (Obj.cells #[Value.int IntKind.i64 q, Value.int IntKind.i64 s] 41)), x.w.cell? ⟨w.heap.size, 0, none⟩ = some (.int .i64 p) := fun x => (x.cell (by simp; omega)).trans (by simp [go_sem])
    have c1 : ∀ x : Ext ((w.alloc (Obj.cells #[Value.int IntKind.i64 p, Value.int IntKind.i64 r] 41)).alloc (Obj.cells #[Value.int IntKind.i64 q, Value.int IntKind.i64 s] 41)), x.w.cell? ⟨w.heap.size, 1, none⟩ = some (.int .i64 r) := fun x => (x.cell (by simp; omega)).trans (by simp [go_sem])
    have c2 : ∀ x : Ext ((w.alloc (Obj.cells #[Value.int IntKind.i64 p, Value.int IntKind.i64 r] 41)).alloc (Obj.cells #[Value.int IntKind.i64 q, Value.int IntKind.i64 s] 41)), x.w.cell? ⟨w.heap.size + 1, 0, none⟩ = some (.int .i64 q) := fun x => (x.cell (by simp)).trans (by simp [go_sem])
    have c3 : ∀ x : Ext ((w.alloc (Obj.cells #[Value.int IntKind.i64 p, Value.int IntKind.i64 r] 41)).alloc (Obj.cells #[Value.int IntKind.i64 q, Value.int IntKind.i64 s] 41)), x.w.cell? ⟨w.heap.size + 1, 1, none⟩ = some (.int .i64 s) := fun x => (x.cell (by simp)).trans (by simp [go_sem])
    refine wp_region_ext (by kernel_rfl) (by kernel_rfl) ?_
    repeat (go_big_quiet_step (first | (go_at_call 85; exact Ext.call _ (sNoSlot_c _)) | (go_at_call 67; with_reducible exact Ext.same _ (sEnough_v hid5.out _))))
    refine wpQuiet_nil ?_
    intro _ hw'
    obtain ⟨x, rfl⟩ := hw'
    have hb : Below w.heap.size w x.w := (((Below.refl _ _).alloc (Nat.le_refl _) _).alloc (by simp) _).trans (x.below.mono (by simp; omega))
    go_wp2
    go_ret
    exact ⟨rfl, hb⟩
theorem sBelow_c (p r q s : Int) (w : World) : Calls Try.prog 91 #[.agg #[.int .i64 p, .int .i64 r], .agg #[.int .i64 q, .int .i64 s]] w fun e w' => e = .returned (.bool (belowS (p, r) (q, s))) ∧ Below w.heap.size w w' := by
  by_cases he : p = -1 ∧ r = 0
  · obtain ⟨h1, h2⟩ := he
    exact (sBelow_1 p r q s _ w (by simp [h1]) (by simp [h2]) rfl).mono fun _ _ ⟨a, b⟩ => ⟨by rw [a]; simp [belowS, slEq, h1, h2], b⟩
  · have hne : (p == -1) = false ∨ (p == -1) = true ∧ (r == 0) = false := by
      by_cases h : p = -1
      · exact .inr ⟨by simp [h], by simp; omega⟩
      · exact .inl (by simp [h])
    have hs : slEq p r (-1) 0 = false := by cases h : slEq p r (-1) 0 <;> simp_all [slEq]
    cases h3 : (p == q)
    · exact (sBelow_3 p r q s _ w hne h3 rfl).mono fun _ _ ⟨a, b⟩ => ⟨by rw [a]; simp [belowS, hs, h3], b⟩
    · exact (sBelow_2 p r q s _ w hne h3 rfl).mono fun _ _ ⟨a, b⟩ => ⟨by rw [a]; simp [belowS, hs, h3], b⟩
theorem iBelow_1 (p r q s : Int) (v : Bool) (w : World) (h1 : (p == -1) = true) (h2 : (r == 0) = true) (h5 : enough s r = v) : Calls Try.prog 86 #[.agg #[.int .i64 p, .int .i64 r], .agg #[.int .i64 q, .int .i64 s]] w fun e w' => e = .returned (.bool true) ∧ Below w.heap.size w w' := by
  have hid5 := Lib.hid h5
  clear h5
  · skip
    go_enter Try.func86, Try.ntmps86
    go_wp2_with fail
    have c0 : ∀ x : Ext ((w.alloc (Obj.cells #[Value.int IntKind.i64 p, Value.int IntKind.i64 r] 41)).alloc (Obj.cells #[Value.int IntKind.i64 q, Value.int IntKind.i64 s] 41)), x.w.cell? ⟨w.heap.size, 0, none⟩ = some (.int .i64 p) := fun x => (x.cell (by simp; omega)).trans (by simp [go_sem])
    have c1 : ∀ x : Ext ((w.alloc (Obj.cells #[Value.int IntKind.i64 p, Value.int IntKind.i64 r] 41)).alloc (Obj.cells #[Value.int IntKind.i64 q, Value.int IntKind.i64 s] 41)), x.w.cell? ⟨w.heap.size, 1, none⟩ = some (.int .i64 r) := fun x => (x.cell (by simp; omega)).trans (by simp [go_sem])
    have c2 : ∀ x : Ext ((w.alloc (Obj.cells #[Value.int IntKind.i64 p, Value.int IntKind.i64 r] 41)).alloc (Obj.cells #[Value.int IntKind.i64 q, Value.int IntKind.i64 s] 41)), x.w.cell? ⟨w.heap.size + 1, 0, none⟩ = some (.int .i64 q) := fun x => (x.cell (by simp)).trans (by simp [go_sem])
    have c3 : ∀ x : Ext ((w.alloc (Obj.cells #[Value.int IntKind.i64 p, Value.int IntKind.i64 r] 41)).alloc (Obj.cells #[Value.int IntKind.i64 q, Value.int IntKind.i64 s] 41)), x.w.cell? ⟨w.heap.size + 1, 1, none⟩ = some (.int .i64 s) := fun x => (x.cell (by simp)).trans (by simp [go_sem])
    refine wp_region_ext (by kernel_rfl) (by kernel_rfl) ?_
    repeat (go_big_quiet_step (first | (go_at_call 84; exact Ext.call _ (iNoSlot_c _)) | (go_at_call 116; with_reducible exact Ext.same _ (iEnough_v hid5.out _))))
    refine wpQuiet_nil ?_
    intro _ hw'
    obtain ⟨x, rfl⟩ := hw'
    have hb : Below w.heap.size w x.w := (((Below.refl _ _).alloc (Nat.le_refl _) _).alloc (by simp) _).trans (x.below.mono (by simp; omega))
    go_wp2
    go_ret
    exact ⟨rfl, hb⟩
theorem iBelow_2 (p r q s : Int) (v : Bool) (w : World) (hne : (p == -1) = false ∨ (p == -1) = true ∧ (r == 0) = false) (h3 : (p == q) = true) (h5 : enough s r = v) : Calls Try.prog 86 #[.agg #[.int .i64 p, .int .i64 r], .agg #[.int .i64 q, .int .i64 s]] w fun e w' => e = .returned (.bool v) ∧ Below w.heap.size w w' := by
  have hid5 := Lib.hid h5
  clear h5
  rcases hne with h1 | ⟨h1, h2⟩
  all_goals
    go_enter Try.func86, Try.ntmps86
    go_wp2_with fail
    have c0 : ∀ x : Ext ((w.alloc (Obj.cells #[Value.int IntKind.i64 p, Value.int IntKind.i64 r] 41)).alloc (Obj.cells #[Value.int IntKind.i64 q, Value.int IntKind.i64 s] 41)), x.w.cell? ⟨w.heap.size, 0, none⟩ = some (.int .i64 p) := fun x => (x.cell (by simp; omega)).trans (by simp [go_sem])
    have c1 : ∀ x : Ext ((w.alloc (Obj.cells #[Value.int IntKind.i64 p, Value.int IntKind.i64 r] 41)).alloc (Obj.cells #[Value.int IntKind.i64 q, Value.int IntKind.i64 s] 41)), x.w.cell? ⟨w.heap.size, 1, none⟩ = some (.int .i64 r) := fun x => (x.cell (by simp; omega)).trans (by simp [go_sem])
    have c2 : ∀ x : Ext ((w.alloc (Obj.cells #[Value.int IntKind.i64 p, Value.int IntKind.i64 r] 41)).alloc (Obj.cells #[Value.int IntKind.i64 q, Value.int IntKind.i64 s] 41)), x.w.cell? ⟨w.heap.size + 1, 0, none⟩ = some (.int .i64 q) := fun x => (x.cell (by simp)).trans (by simp [go_sem])
    have c3 : ∀ x : Ext ((w.alloc (Obj.cells #[Value.int IntKind.i64 p, Value.int IntKind.i64 r] 41)).alloc (Obj.cells #[Value.int IntKind.i64 q, Value.int IntKind.i64 s] 41)), x.w.cell? ⟨w.heap.size + 1, 1, none⟩ = some (.int .i64 s) := fun x => (x.cell (by simp)).trans (by simp [go_sem])
    refine wp_region_ext (by kernel_rfl) (by kernel_rfl) ?_
    repeat (go_big_quiet_step (first | (go_at_call 84; exact Ext.call _ (iNoSlot_c _)) | (go_at_call 116; with_reducible exact Ext.same _ (iEnough_v hid5.out _))))
    refine wpQuiet_nil ?_
    intro _ hw'
    obtain ⟨x, rfl⟩ := hw'
    have hb : Below w.heap.size w x.w := (((Below.refl _ _).alloc (Nat.le_refl _) _).alloc (by simp) _).trans (x.below.mono (by simp; omega))
    go_wp2
    go_ret
    exact ⟨rfl, hb⟩
theorem iBelow_3 (p r q s : Int) (v : Bool) (w : World) (hne : (p == -1) = false ∨ (p == -1) = true ∧ (r == 0) = false) (h3 : (p == q) = false) (h5 : enough s r = v) : Calls Try.prog 86 #[.agg #[.int .i64 p, .int .i64 r], .agg #[.int .i64 q, .int .i64 s]] w fun e w' => e = .returned (.bool false) ∧ Below w.heap.size w w' := by
  have hid5 := Lib.hid h5
  clear h5
  rcases hne with h1 | ⟨h1, h2⟩
  all_goals
    go_enter Try.func86, Try.ntmps86
    go_wp2_with fail
    have c0 : ∀ x : Ext ((w.alloc (Obj.cells #[Value.int IntKind.i64 p, Value.int IntKind.i64 r] 41)).alloc (Obj.cells #[Value.int IntKind.i64 q, Value.int IntKind.i64 s] 41)), x.w.cell? ⟨w.heap.size, 0, none⟩ = some (.int .i64 p) := fun x => (x.cell (by simp; omega)).trans (by simp [go_sem])
    have c1 : ∀ x : Ext ((w.alloc (Obj.cells #[Value.int IntKind.i64 p, Value.int IntKind.i64 r] 41)).alloc (Obj.cells #[Value.int IntKind.i64 q, Value.int IntKind.i64 s] 41)), x.w.cell? ⟨w.heap.size, 1, none⟩ = some (.int .i64 r) := fun x => (x.cell (by simp; omega)).trans (by simp [go_sem])
    have c2 : ∀ x : Ext ((w.alloc (Obj.cells #[Value.int IntKind.i64 p, Value.int IntKind.i64 r] 41)).alloc (Obj.cells #[Value.int IntKind.i64 q, Value.int IntKind.i64 s] 41)), x.w.cell? ⟨w.heap.size + 1, 0, none⟩ = some (.int .i64 q) := fun x => (x.cell (by simp)).trans (by simp [go_sem])
    have c3 : ∀ x : Ext ((w.alloc (Obj.cells #[Value.int IntKind.i64 p, Value.int IntKind.i64 r] 41)).alloc (Obj.cells #[Value.int IntKind.i64 q, Value.int IntKind.i64 s] 41)), x.w.cell? ⟨w.heap.size + 1, 1, none⟩ = some (.int .i64 s) := fun x => (x.cell (by simp)).trans (by simp [go_sem])
    refine wp_region_ext (by kernel_rfl) (by kernel_rfl) ?_
    repeat (go_big_quiet_step (first | (go_at_call 84; exact Ext.call _ (iNoSlot_c _)) | (go_at_call 116; with_reducible exact Ext.same _ (iEnough_v hid5.out _))))
    refine wpQuiet_nil ?_
    intro _ hw'
    obtain ⟨x, rfl⟩ := hw'
    have hb : Below w.heap.size w x.w := (((Below.refl _ _).alloc (Nat.le_refl _) _).alloc (by simp) _).trans (x.below.mono (by simp; omega))
    go_wp2
    go_ret
    exact ⟨rfl, hb⟩
theorem iBelow_c (p r q s : Int) (w : World) : Calls Try.prog 86 #[.agg #[.int .i64 p, .int .i64 r], .agg #[.int .i64 q, .int .i64 s]] w fun e w' => e = .returned (.bool (belowS (p, r) (q, s))) ∧ Below w.heap.size w w' := by
  by_cases he : p = -1 ∧ r = 0
  · obtain ⟨h1, h2⟩ := he
    exact (iBelow_1 p r q s _ w (by simp [h1]) (by simp [h2]) rfl).mono fun _ _ ⟨a, b⟩ => ⟨by rw [a]; simp [belowS, slEq, h1, h2], b⟩
  · have hne : (p == -1) = false ∨ (p == -1) = true ∧ (r == 0) = false := by
      by_cases h : p = -1
      · exact .inr ⟨by simp [h], by simp; omega⟩
      · exact .inl (by simp [h])
    have hs : slEq p r (-1) 0 = false := by cases h : slEq p r (-1) 0 <;> simp_all [slEq]
    cases h3 : (p == q)
    · exact (iBelow_3 p r q s _ w hne h3 rfl).mono fun _ _ ⟨a, b⟩ => ⟨by rw [a]; simp [belowS, hs, h3], b⟩
    · exact (iBelow_2 p r q s _ w hne h3 rfl).mono fun _ _ ⟨a, b⟩ => ⟨by rw [a]; simp [belowS, hs, h3], b⟩
end Go.Proofs.Ytlfnhfipnjgifaa
