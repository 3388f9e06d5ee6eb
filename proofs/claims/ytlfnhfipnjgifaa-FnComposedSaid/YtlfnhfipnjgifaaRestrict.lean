/- Contracts of table functions: Restrict. The tables hold at most 1048576 slots. -/
import Derived.Test.YtlfnhfipnjgifaaWith
namespace Go.Proofs.Ytlfnhfipnjgifaa
open Go.RowKit
set_option linter.unusedVariables false
set_option maxHeartbeats 1000000

theorem slotCells_set2 (l : List Sl) (k : Nat) (p r b : Int) (h : l[k]? = some (p, r)) : (slotCells l).set (k * 2 + 1) (.int .i64 b) = slotCells (l.set k (p, b)) := by
  have hlt : k < l.length := (List.getElem?_eq_some_iff.1 h).1
  have hs : l[k] = (p, r) := (List.getElem?_eq_some_iff.1 h).2
  rw [← slotCells_set l k (p, b) hlt]
  congr 1
  have := (slotCells_at l k hlt).1
  rw [hs] at this
  obtain ⟨h1, h2⟩ := List.getElem?_eq_some_iff.1 this
  rw [← h2, List.set_getElem_self]
theorem restrict_fill (l : List Sl) (f : Sl → Sl) (k : Nat) (s : Sl) (h : l[k]? = some s) : ((l.take k).map f ++ l.drop k).set k (f s) = (l.take (k + 1)).map f ++ l.drop (k + 1) := by
  have hlt : k < l.length := (List.getElem?_eq_some_iff.1 h).1
  have hs : l[k] = s := (List.getElem?_eq_some_iff.1 h).2
  rw [List.set_append_right _ _ (by simp; omega), List.drop_eq_getElem_cons hlt, List.take_add_one, h]
  simp [Nat.min_eq_left (Nat.le_of_lt hlt), hs]
theorem sRestrict_c (A : Option Addr) (n c : Nat) (l : List Sl) (q : Int) (w : World) (ha : Rd w 2 A n (slotCells l)) (hn : n ≤ 1048576) :
    Calls Try.prog 93 #[.slice A n c, .int .i64 q] w (Made w 41 2 n (slotCells (l.map fun s => restrictS s q))) := by
  have hl := slots_len ha
  obtain ⟨i0, hi, hz0, hz1, hz2⟩ := info_parts info_Slot
  go_enter Try.func93, Try.ntmps93
  go_wp2
  have hown0 := World.ownsRow_lit (base := w.heap.size) (e := 41) (size := 2) w #[] 0 (Nat.le_refl _) (by simp) (by simp)
  go_loopw [5, 6] (fun v i wr => ∃ (k : Nat) (G : Option Addr) (cc : Nat), k ≤ n ∧ i = .int .i64 k ∧ v = .slice G k cc ∧ wr.ownsRow w.heap.size 41 2 (.slice G k cc) k (slotCells ((l.take k).map fun s => restrictS s q)) ∧ Below w.heap.size w wr) (fun _ i _ => n - (intOf i).toNat)
  case atStart => exact ⟨0, _, _, by omega, rfl, rfl, by simpa [slotCells] using hown0, (Below.refl _ _).alloc (Nat.le_refl _) _⟩
  case round =>
    obtain ⟨k, G, cc, hk, rfl, rfl, hown, hbel⟩ := hrel
    clear hown0
    by_cases hlt : k < n
    · obtain ⟨b, o, p, r, rfl, hlk, c0, c1⟩ := (ha.below hbel).slot k hlt
      have H1 := Lib.hid hlk
      have H2 := Lib.hid hl
      clear hlk hl
      cases hz : (bothR r q == 0)
      · have HC : Hid (restrictS (p, r) q = (p, bothR r q)) := if_neg (by simpa using hz)
        go_wp2_with fail
        refine (sBothRights_c _ _ _).mono ?_
        rintro e w2 ⟨rfl, rfl⟩
        go_wp2_with (at_builtin; refine wpList_append_own _ rfl _ _ 22 rfl w.heap.size 41 i0 (.agg #[.int .i64 0, .int .i64 0]) 2 16 Try.underlying22 hi hz0 hz1 hz2 rfl (by decide) _ _ _ rfl (hown.alloc _) ⟨wr.heap.size, 0, none⟩ 1 1 [.int .i64 p, .int .i64 (bothR r q)] rfl rfl (new_one wr #[.int .i64 p, .int .i64 (bothR r q)] _) ?b2 ?b3 ?b4 ?b5 ?_)
        case b2 => intro u hu; simp at hu; rcases hu with rfl | rfl <;> rfl
        case b3 => unfold maxLen; omega
        case b4 => omega
        case b5 => have := hbel.size; simp; omega
        intro v' w3 hown3 hgr3 _
        have hbel3 := below_grown (hbel.alloc hbel.size _) (hown.alloc _) (Nat.le_refl _) hgr3
        obtain ⟨G', cc', rfl⟩ := own_shape hown3
        have HO : Hid (w3.ownsRow w.heap.size 41 2 (.slice G' (k + 1) cc') (k + 1) (slotCells ((l.take (k + 1)).map fun s => restrictS s q))) := by
          show w3.ownsRow w.heap.size 41 2 (.slice G' (k + 1) cc') (k + 1) (slotCells ((l.take (k + 1)).map fun s => restrictS s q))
          rw [List.take_add_one, H1.out, List.map_append, slotCells_append]
          simpa [slotCells, HC.out, noSlot] using hown3
        clear hown3 hgr3
        go_wp2
        go_roundw
        case rel => exact ⟨k + 1, G', cc', by omega, by go_num, rfl, HO.out, hbel3⟩
        case measure => simp [intOf]; omega
      · have HC : Hid (restrictS (p, r) q = noSlot) := if_pos (by simpa using hz)
        go_wp2_with fail
        refine (sBothRights_c _ _ _).mono ?_
        rintro e w2 ⟨rfl, rfl⟩
        go_wp2_with fail
        refine (sNoSlot_c _).mono ?_
        rintro e w2 ⟨rfl, hb2⟩
        have hbel2 : Below w.heap.size w w2 := hbel.trans (hb2.mono hbel.size)
        have hown2 := own_kept hown hb2
        clear hb2 hown hbel c0 c1
        go_wp2_with (at_builtin; refine wpList_append_own _ rfl _ _ 22 rfl w.heap.size 41 i0 (.agg #[.int .i64 0, .int .i64 0]) 2 16 Try.underlying22 hi hz0 hz1 hz2 rfl (by decide) _ _ _ rfl (hown2.alloc _) ⟨w2.heap.size, 0, none⟩ 1 1 [.int .i64 (-1), .int .i64 0] rfl rfl (new_one w2 #[.int .i64 (-1), .int .i64 0] _) ?c2 ?c3 ?c4 ?c5 ?_)
        case c2 => intro u hu; simp at hu; rcases hu with rfl | rfl <;> rfl
        case c3 => unfold maxLen; omega
        case c4 => omega
        case c5 => have := hbel2.size; simp; omega
        intro v' w3 hown3 hgr3 _
        have hbel3 := below_grown (hbel2.alloc hbel2.size _) (hown2.alloc _) (Nat.le_refl _) hgr3
        obtain ⟨G', cc', rfl⟩ := own_shape hown3
        have HO : Hid (w3.ownsRow w.heap.size 41 2 (.slice G' (k + 1) cc') (k + 1) (slotCells ((l.take (k + 1)).map fun s => restrictS s q))) := by
          show w3.ownsRow w.heap.size 41 2 (.slice G' (k + 1) cc') (k + 1) (slotCells ((l.take (k + 1)).map fun s => restrictS s q))
          rw [List.take_add_one, H1.out, List.map_append, slotCells_append]
          simpa [slotCells, HC.out, noSlot] using hown3
        clear hown3 hgr3
        go_wp2
        go_roundw
        case rel => exact ⟨k + 1, G', cc', by omega, by go_num, rfl, HO.out, hbel3⟩
        case measure => simp [intOf]; omega
    · go_wp2
      go_ret
      obtain rfl : k = n := by omega
      refine Made.mk rfl ?_ hbel
      rw [List.take_of_length_le (by omega)] at hown
      exact hown
theorem iRestrict_c (A : Option Addr) (n c : Nat) (l : List Sl) (q : Int) (w : World) (ha : Rd w 2 A n (slotCells l)) (hn : n ≤ 1048576) :
    Calls Try.prog 56 #[.slice A n c, .int .i64 q] w (Made w 41 2 n (slotCells (l.map fun s => restrictS s q))) := by
  have hl := slots_len ha
  go_enter Try.func56, Try.ntmps56
  go_wp2_with fail
  refine (copyTable_c A n c l _ ha hn).mono ?_
  rintro e w1 ⟨G, cc, rfl, hown0, hb0⟩
  go_wp2
  go_loopw [12] (fun i wr => ∃ k : Nat, k ≤ n ∧ i = .int .i64 k ∧ wr.ownsRow w.heap.size 41 2 (.slice G n cc) n (slotCells ((l.take k).map (fun s => restrictS s q) ++ l.drop k)) ∧ Below w.heap.size w wr) (fun i _ => n - (intOf i).toNat)
  case atStart => exact ⟨0, by omega, rfl, by simpa using hown0, hb0⟩
  case round =>
    obtain ⟨k, hk, rfl, hown, hbel⟩ := hrel
    clear hown0 hb0
    by_cases hlt : k < n
    · obtain ⟨b, o, p, r, rfl, hlk, c0, c1⟩ := (ha.below hbel).slot k hlt
      obtain ⟨g, rfl⟩ := own_at hown (by omega)
      have hg := hown.lt g rfl
      have hfill := restrict_fill l (fun s => restrictS s q) k (p, r) hlk
      have hset0 : ((l.take k).map (fun s => restrictS s q) ++ l.drop k)[k]? = some (p, r) := by
        have hlt' : k < l.length := by omega
        rw [List.getElem?_append_right (by simp; omega), List.length_map, List.length_take, Nat.min_eq_left (Nat.le_of_lt hlt'), Nat.sub_self, List.getElem?_drop]
        simpa using hlk
      generalize (l.take k).map (fun s => restrictS s q) ++ l.drop k = L at hown hfill hset0
      have hown4 := hown.alloc (Obj.cells #[Value.int IntKind.i64 p, Value.int IntKind.i64 r] 41)
      have hbel4 := hbel.alloc hbel.size (Obj.cells #[Value.int IntKind.i64 p, Value.int IntKind.i64 r] 41)
      have j0 : (wr.alloc (Obj.cells #[Value.int IntKind.i64 p, Value.int IntKind.i64 r] 41)).cell? ⟨wr.heap.size, 0, none⟩ = some (.int .i64 p) := by simp [go_sem]
      have j1 : (wr.alloc (Obj.cells #[Value.int IntKind.i64 p, Value.int IntKind.i64 r] 41)).cell? ⟨wr.heap.size, 1, none⟩ = some (.int .i64 r) := by simp [go_sem]
      have hgz : g < wr.heap.size := hg.2
      have hgl : w.heap.size ≤ g := hg.1
      have H2 := Lib.hid hl
      have HF := Lib.hid hfill
      have HL := Lib.hid hset0
      clear hl hfill hset0 hlk hown hbel hg
      cases hz : (bothR r q == 0)
      all_goals
        go_wp2_with fail
        generalize wr.alloc (Obj.cells #[Value.int IntKind.i64 p, Value.int IntKind.i64 r] 41) = w4 at hown4 hbel4 j0 j1 ⊢
        refine (iBothRights_c _ _ _).mono ?_
        rintro e w2 ⟨rfl, rfl⟩
        obtain ⟨p', q', hpq, d0, d1, z0, z1⟩ := own_slot_at hown4 k hlt
        obtain ⟨rfl, rfl⟩ : p = p' ∧ r = q' := by
          have := HL.out.symm.trans hpq
          simpa using this
        clear hpq
        have hst1 := hown4.stored (k * 2 + 1) (.int .i64 (bothR r q))
        rw [slotCells_set2 L k p r _ HL.out] at hst1
        have hbel5 := hbel4.grown hst1.2 hbel4.size (fun k hk => by injection hk with hk; omega)
        have e1 : (w4.setCell ⟨g, k * 2 + 1, none⟩ (.int .i64 (bothR r q))).cell? ⟨g, k * 2 + 1, none⟩ = some (.int .i64 (bothR r q)) := World.cell?_setCell_same _ _ _ d1
        have HS1 := Lib.hid hst1.1
        clear hst1
      · have hfin : restrictS (p, r) q = (p, bothR r q) := if_neg (by simpa using hz)
        have HO : Hid ((w4.setCell ⟨g, k * 2 + 1, none⟩ (.int .i64 (bothR r q))).ownsRow w.heap.size 41 2 (.slice (some ⟨g, 0, none⟩) n cc) n (slotCells ((l.take (k + 1)).map (fun s => restrictS s q) ++ l.drop (k + 1)))) := by
          have h := HS1.out
          rw [← hfin, HF.out] at h
          exact h
        clear hfin hown4
        go_wp2
        go_roundw
        case rel => exact ⟨k + 1, by omega, by go_num, HO.out, hbel5⟩
        case measure => simp [intOf]; omega
      · go_wp2_with fail
        refine (iNoSlot_c _).mono ?_
        rintro e w5 ⟨rfl, hb5⟩
        have hown5 := own_kept HS1.out hb5
        have hbel6 : Below w.heap.size w w5 := hbel5.trans (hb5.mono hbel5.size)
        obtain ⟨p5, q5, -, d50, d51, z50, z51⟩ := own_slot_at hown5 k hlt
        have hS := own_slot_set hown5 k hlt (-1) 0
        have hfin : restrictS (p, r) q = (-1, 0) := if_pos (by simpa using hz)
        have hbel7 := hbel6.grown hS.2 hbel6.size (fun k hk => by injection hk with hk; omega)
        have HO : Hid (((w5.setCell ⟨g, k * 2, none⟩ (.int .i64 (-1))).setCell ⟨g, k * 2 + 1, none⟩ (.int .i64 0)).ownsRow w.heap.size 41 2 (.slice (some ⟨g, 0, none⟩) n cc) n (slotCells ((l.take (k + 1)).map (fun s => restrictS s q) ++ l.drop (k + 1)))) := by
          have h := hS.1
          rw [List.set_set, ← hfin, HF.out] at h
          exact h
        clear hfin hown4 hown5 hb5 hS d0 d1 z0 z1 e1 hbel4 hbel5 hbel6 j0 j1
        go_wp2
        go_roundw
        case rel => exact ⟨k + 1, by omega, by go_num, HO.out, hbel7⟩
        case measure => simp [intOf]; omega
    · go_wp2
      go_ret
      obtain rfl : k = n := by omega
      refine Made.mk rfl ?_ hbel
      rw [List.take_of_length_le (by omega), List.drop_of_length_le (by omega)] at hown
      simpa using hown
end Go.Proofs.Ytlfnhfipnjgifaa
