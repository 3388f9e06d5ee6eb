/- Contracts of table functions: Compose. The tables hold at most 1048576 slots. -/
import Derived.Test.YtlfnhfipnjgifaaComp
namespace Go.Proofs.Ytlfnhfipnjgifaa
open Go.RowKit
set_option linter.unusedVariables false
set_option maxHeartbeats 1000000

theorem sCompose_c (A B : Option Addr) (n m c d : Nat) (l r : List Sl) (w : World) (ha : Rd w 2 A n (slotCells l)) (hb : Rd w 2 B m (slotCells r)) (hn : n ≤ 1048576) (hm : m ≤ 1048576) :
    Calls Try.prog 66 #[.slice A n c, .slice B m d] w (Made w 41 2 n (slotCells (l.map fun s => composeSlot s r))) := by
  have hl := slots_len ha
  obtain ⟨i0, hi, hz0, hz1, hz2⟩ := info_parts info_Slot
  go_enter Try.func66, Try.ntmps66
  go_wp2
  have hown0 := World.ownsRow_lit (base := w.heap.size) (e := 41) (size := 2) w #[] 0 (Nat.le_refl _) (by simp) (by simp)
  go_loopw [5, 6] (fun v i wr => ∃ (k : Nat) (G : Option Addr) (cc : Nat), k ≤ n ∧ i = .int .i64 k ∧ v = .slice G k cc ∧ wr.ownsRow w.heap.size 41 2 (.slice G k cc) k (slotCells ((l.take k).map fun s => composeSlot s r)) ∧ Below w.heap.size w wr) (fun _ i _ => n - (intOf i).toNat)
  case atStart => exact ⟨0, _, _, by omega, rfl, rfl, by simpa [slotCells] using hown0, (Below.refl _ _).alloc (Nat.le_refl _) _⟩
  case round =>
    obtain ⟨k, G, cc, hk, rfl, rfl, hown, hbel⟩ := hrel
    clear hown0
    by_cases hlt : k < n
    · obtain ⟨b, o, p, q, rfl, hlk, c0, c1⟩ := (ha.below hbel).slot k hlt
      obtain ⟨p', q', hc⟩ : ∃ p' q', composeSlot (p, q) r = (p', q') := ⟨_, _, rfl⟩
      have H1 := Lib.hid hlk
      have H2 := Lib.hid hl
      have HC := Lib.hid hc
      clear hlk hl hc
      go_wp2_with fail
      refine (sComposeSlot_c _ _ B m d r _ (hb.below hbel) hm HC.out).mono ?_
      rintro e w2 ⟨rfl, hb2⟩
      have hbs := hbel.size
      have hbel2 : Below w.heap.size w w2 := hbel.trans (hb2.mono hbel.size)
      have hown2 := own_kept hown hb2
      clear hb2 hown hbel hbs c0 c1
      go_wp2_with (at_builtin; refine wpList_append_own _ rfl _ _ 22 rfl w.heap.size 41 i0 (.agg #[.int .i64 0, .int .i64 0]) 2 16 Try.underlying22 hi hz0 hz1 hz2 rfl (by decide) _ _ _ rfl (hown2.alloc _) ⟨w2.heap.size, 0, none⟩ 1 1 [.int .i64 p', .int .i64 q'] rfl rfl (new_one w2 #[.int .i64 p', .int .i64 q'] _) ?c2 ?c3 ?c4 ?c5 ?_)
      case c2 => intro u hu; simp at hu; rcases hu with rfl | rfl <;> rfl
      case c3 => unfold maxLen; omega
      case c4 => omega
      case c5 => have := hbel2.size; simp; omega
      intro v' w3 hown3 hgr3 _
      have hbel3 := below_grown (hbel2.alloc hbel2.size _) (hown2.alloc _) (Nat.le_refl _) hgr3
      obtain ⟨G', cc', rfl⟩ := own_shape hown3
      have HO : Hid (w3.ownsRow w.heap.size 41 2 (.slice G' (k + 1) cc') (k + 1) (slotCells ((l.take (k + 1)).map fun s => composeSlot s r))) := by
        show w3.ownsRow w.heap.size 41 2 (.slice G' (k + 1) cc') (k + 1) (slotCells ((l.take (k + 1)).map fun s => composeSlot s r))
        rw [List.take_add_one, H1.out, List.map_append, slotCells_append]
        simpa [slotCells, HC.out] using hown3
      clear hown3 hgr3 hbel2 hown2
      go_wp2
      go_roundw
      case rel => exact ⟨k + 1, G', cc', by omega, by go_num, rfl, HO.out, hbel3⟩
      case measure => simp [intOf]; omega
    · go_wp2
      go_ret
      obtain rfl : k = n := by omega
      refine Made.mk rfl ?_ hbel
      rw [List.take_of_length_le (by omega)] at hown
      exact hown
theorem iCompose_c (A B : Option Addr) (n m c d : Nat) (l r : List Sl) (w : World) (ha : Rd w 2 A n (slotCells l)) (hb : Rd w 2 B m (slotCells r)) (hn : n ≤ 1048576) (hm : m ≤ 1048576) :
    Calls Try.prog 55 #[.slice A n c, .slice B m d] w (Made w 41 2 n (slotCells (l.map fun s => composeSlot s r))) := by
  have hl := slots_len ha
  obtain ⟨i0, hi, hz0, hz1, hz2⟩ := info_parts info_Slot
  go_enter Try.func55, Try.ntmps55
  go_wp2
  have hown0 := World.ownsRow_lit (base := w.heap.size) (e := 41) (size := 2) w #[] 0 (Nat.le_refl _) (by simp) (by simp)
  go_loopw [5, 11] (fun v i wr => ∃ (k : Nat) (G : Option Addr) (cc : Nat), k ≤ n ∧ i = .int .i64 k ∧ v = .slice G k cc ∧ wr.ownsRow w.heap.size 41 2 (.slice G k cc) k (slotCells ((l.take k).map fun s => composeSlot s r)) ∧ Below w.heap.size w wr) (fun _ i _ => n - (intOf i).toNat)
  case atStart => exact ⟨0, _, _, by omega, rfl, rfl, by simpa [slotCells] using hown0, (Below.refl _ _).alloc (Nat.le_refl _) _⟩
  case round =>
    obtain ⟨k, G, cc, hk, rfl, rfl, hown, hbel⟩ := hrel
    clear hown0
    by_cases hlt : k < n
    · obtain ⟨b, o, p, q, rfl, hlk, c0, c1⟩ := (ha.below hbel).slot k hlt
      obtain ⟨p', q', hc⟩ : ∃ p' q', composeSlot (p, q) r = (p', q') := ⟨_, _, rfl⟩
      have H1 := Lib.hid hlk
      have H2 := Lib.hid hl
      have HC := Lib.hid hc
      clear hlk hl hc
      go_wp2_with fail
      refine (iComposeSlot_c _ _ B m d r _ (hb.below (hbel.alloc hbel.size _)) hm HC.out).mono ?_
      rintro e w2 ⟨rfl, hb2⟩
      have hbs := hbel.size
      have hbel2 : Below w.heap.size w w2 := (hbel.alloc hbel.size _).trans (hb2.mono (by simp; omega))
      have hown2 := own_kept (hown.alloc _) hb2
      clear hb2 hown hbel hbs c0 c1
      go_wp2_with (at_builtin; refine wpList_append_own _ rfl _ _ 22 rfl w.heap.size 41 i0 (.agg #[.int .i64 0, .int .i64 0]) 2 16 Try.underlying22 hi hz0 hz1 hz2 rfl (by decide) _ _ _ rfl (hown2.alloc _) ⟨w2.heap.size, 0, none⟩ 1 1 [.int .i64 p', .int .i64 q'] rfl rfl (new_one w2 #[.int .i64 p', .int .i64 q'] _) ?c2 ?c3 ?c4 ?c5 ?_)
      case c2 => intro u hu; simp at hu; rcases hu with rfl | rfl <;> rfl
      case c3 => unfold maxLen; omega
      case c4 => omega
      case c5 => have := hbel2.size; simp; omega
      intro v' w3 hown3 hgr3 _
      have hbel3 := below_grown (hbel2.alloc hbel2.size _) (hown2.alloc _) (Nat.le_refl _) hgr3
      obtain ⟨G', cc', rfl⟩ := own_shape hown3
      have HO : Hid (w3.ownsRow w.heap.size 41 2 (.slice G' (k + 1) cc') (k + 1) (slotCells ((l.take (k + 1)).map fun s => composeSlot s r))) := by
        show w3.ownsRow w.heap.size 41 2 (.slice G' (k + 1) cc') (k + 1) (slotCells ((l.take (k + 1)).map fun s => composeSlot s r))
        rw [List.take_add_one, H1.out, List.map_append, slotCells_append]
        simpa [slotCells, HC.out] using hown3
      clear hown3 hgr3 hbel2 hown2
      go_wp2
      go_roundw
      case rel => exact ⟨k + 1, G', cc', by omega, by go_num, rfl, HO.out, hbel3⟩
      case measure => simp [intOf]; omega
    · go_wp2
      go_ret
      obtain rfl : k = n := by omega
      refine Made.mk rfl ?_ hbel
      rw [List.take_of_length_le (by omega)] at hown
      exact hown
end Go.Proofs.Ytlfnhfipnjgifaa
