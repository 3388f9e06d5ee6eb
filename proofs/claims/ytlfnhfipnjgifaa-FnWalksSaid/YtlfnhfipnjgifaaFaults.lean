/- Contracts of Faults: the codes of the walks of all pages. The tables hold at most 1048576 slots. -/
import Derived.Test.YtlfnhfipnjgifaaWalk
import Derived.Test.YtlfnhfipnjgifaaIntL
namespace Go.Proofs.Ytlfnhfipnjgifaa
open Go.RowKit
set_option linter.unusedVariables false
set_option maxHeartbeats 1000000

def faultsTo (l r : List Sl) (need : Int) (k : Nat) : List Int := (List.range k).map fun (i : Nat) => (walkS l r (i : Int) need).2
theorem faultsTo_length (l r : List Sl) (need : Int) (k : Nat) : (faultsTo l r need k).length = k := by simp [faultsTo]
theorem faultsTo_succ (l r : List Sl) (need : Int) (k : Nat) : faultsTo l r need (k + 1) = faultsTo l r need k ++ [(walkS l r (k : Int) need).2] := by simp [faultsTo, List.range_succ]
theorem sFaults_c (A B : Option Addr) (n m c d : Nat) (l r : List Sl) (need : Int) (w : World) (ha : Rd w 2 A n (slotCells l)) (hb : Rd w 2 B m (slotCells r)) (hn : n ≤ 1048576) (hm : m ≤ 1048576) :
    Calls Try.prog 33 #[.slice A n c, .slice B m d, .int .i64 need] w (Made w 3 1 n (intCells (faultsTo l r need n))) := by
  have hl := slots_len ha
  obtain ⟨i0, hi, hz0, hz1, hz2⟩ := info_parts info_int'
  go_enter Try.func33, Try.ntmps33
  go_wp2
  have hown0 := World.ownsRow_lit (base := w.heap.size) (e := 3) (size := 1) w #[] 0 (Nat.le_refl _) (by simp) (by simp)
  go_loopw [7, 8] (fun v i wr => ∃ (k : Nat) (G : Option Addr) (cc : Nat), k ≤ n ∧ i = .int .i64 k ∧ v = .slice G k cc ∧ wr.ownsRow w.heap.size 3 1 (.slice G k cc) k (intCells (faultsTo l r need k)) ∧ Below w.heap.size w wr) (fun _ i _ => n - (intOf i).toNat)
  case atStart => exact ⟨0, _, _, by omega, rfl, rfl, by simpa [intCells, faultsTo] using hown0, (Below.refl _ _).alloc (Nat.le_refl _) _⟩
  case round =>
    obtain ⟨k, G, cc, hk, rfl, rfl, hown, hbel⟩ := hrel
    clear hown0
    by_cases hlt : k < n
    · obtain ⟨p', q', hc⟩ : ∃ p' q', walkS l r (k : Int) need = (p', q') := ⟨_, _, rfl⟩
      have H2 := Lib.hid hl
      have HC := Lib.hid hc
      clear hl hc
      go_wp2_with fail
      refine (sWalk_c A B n m c d l r _ need _ (ha.below hbel) (hb.below hbel) hn hm HC.out).mono ?_
      rintro e w2 ⟨rfl, hb2⟩
      have hbs := hbel.size
      have hbel2 : Below w.heap.size w w2 := hbel.trans (hb2.mono hbel.size)
      have hown2 := own_kept hown hb2
      clear hb2 hown hbel hbs
      go_wp2_with (at_builtin; refine wpList_append_own _ rfl _ _ 47 rfl w.heap.size 3 i0 (.int .i64 0) 1 8 Try.underlying47 hi hz0 hz1 hz2 rfl (by decide) _ _ _ rfl (hown2.alloc _) ⟨w2.heap.size, 0, none⟩ 1 1 [.int .i64 q'] rfl rfl (new_one w2 #[.int .i64 q'] _) ?c2 ?c3 ?c4 ?c5 ?_)
      case c2 => first | rfl | (intro u hu; simp at hu; subst hu; rfl)
      case c3 => unfold maxLen; omega
      case c4 => omega
      case c5 => have := hbel2.size; simp; omega
      intro v' w3 hown3 hgr3 _
      have hbel3 := below_grown (hbel2.alloc hbel2.size _) (hown2.alloc _) (Nat.le_refl _) hgr3
      obtain ⟨G', cc', rfl⟩ := own_shape hown3
      have HO : Hid (w3.ownsRow w.heap.size 3 1 (.slice G' (k + 1) cc') (k + 1) (intCells (faultsTo l r need (k + 1)))) := by
        show w3.ownsRow w.heap.size 3 1 (.slice G' (k + 1) cc') (k + 1) (intCells (faultsTo l r need (k + 1)))
        rw [faultsTo_succ, HC.out]
        simpa [intCells] using hown3
      clear hown3 hgr3 hbel2 hown2
      go_wp2
      go_roundw
      case rel => exact ⟨k + 1, G', cc', by omega, by go_num, rfl, HO.out, hbel3⟩
      case measure => simp [intOf]; omega
    · go_wp2
      go_ret
      obtain rfl : k = n := by omega
      exact Made.mk rfl hown hbel
theorem iFaults_c (A B : Option Addr) (n m c d : Nat) (l r : List Sl) (need : Int) (w : World) (ha : Rd w 2 A n (slotCells l)) (hb : Rd w 2 B m (slotCells r)) (hn : n ≤ 1048576) (hm : m ≤ 1048576) :
    Calls Try.prog 35 #[.slice A n c, .slice B m d, .int .i64 need] w (Made w 3 1 n (intCells (faultsTo l r need n))) := by
  have hl := slots_len ha
  obtain ⟨i0, hi, hz0, hz1, hz2⟩ := info_parts info_int'
  go_enter Try.func35, Try.ntmps35
  go_wp2
  have hown0 := World.ownsRow_lit (base := w.heap.size) (e := 3) (size := 1) w #[] 0 (Nat.le_refl _) (by simp) (by simp)
  go_loopw [7, 14] (fun v i wr => ∃ (k : Nat) (G : Option Addr) (cc : Nat), k ≤ n ∧ i = .int .i64 k ∧ v = .slice G k cc ∧ wr.ownsRow w.heap.size 3 1 (.slice G k cc) k (intCells (faultsTo l r need k)) ∧ Below w.heap.size w wr) (fun _ i _ => n - (intOf i).toNat)
  case atStart => exact ⟨0, _, _, by omega, rfl, rfl, by simpa [intCells, faultsTo] using hown0, (Below.refl _ _).alloc (Nat.le_refl _) _⟩
  case round =>
    obtain ⟨k, G, cc, hk, rfl, rfl, hown, hbel⟩ := hrel
    clear hown0
    by_cases hlt : k < n
    · obtain ⟨p', q', hc⟩ : ∃ p' q', walkS l r (k : Int) need = (p', q') := ⟨_, _, rfl⟩
      have H2 := Lib.hid hl
      have HC := Lib.hid hc
      clear hl hc
      go_wp2_with fail
      refine (iWalk_c A B n m c d l r _ need _ (ha.below hbel) (hb.below hbel) hn hm HC.out).mono ?_
      rintro e w2 ⟨rfl, hb2⟩
      have hbs := hbel.size
      have hbel2 : Below w.heap.size w w2 := hbel.trans (hb2.mono hbel.size)
      have hown2 := own_kept hown hb2
      clear hb2 hown hbel hbs
      go_wp2_with (at_builtin; refine wpList_append_own _ rfl _ _ 47 rfl w.heap.size 3 i0 (.int .i64 0) 1 8 Try.underlying47 hi hz0 hz1 hz2 rfl (by decide) _ _ _ rfl (hown2.alloc _) ⟨w2.heap.size, 0, none⟩ 1 1 [.int .i64 q'] rfl rfl (new_one w2 #[.int .i64 q'] _) ?c2 ?c3 ?c4 ?c5 ?_)
      case c2 => first | rfl | (intro u hu; simp at hu; subst hu; rfl)
      case c3 => unfold maxLen; omega
      case c4 => omega
      case c5 => have := hbel2.size; simp; omega
      intro v' w3 hown3 hgr3 _
      have hbel3 := below_grown (hbel2.alloc hbel2.size _) (hown2.alloc _) (Nat.le_refl _) hgr3
      obtain ⟨G', cc', rfl⟩ := own_shape hown3
      have HO : Hid (w3.ownsRow w.heap.size 3 1 (.slice G' (k + 1) cc') (k + 1) (intCells (faultsTo l r need (k + 1)))) := by
        show w3.ownsRow w.heap.size 3 1 (.slice G' (k + 1) cc') (k + 1) (intCells (faultsTo l r need (k + 1)))
        rw [faultsTo_succ, HC.out]
        simpa [intCells] using hown3
      clear hown3 hgr3 hbel2 hown2
      go_wp2
      go_roundw
      case rel => exact ⟨k + 1, G', cc', by omega, by go_num, rfl, HO.out, hbel3⟩
      case measure => simp [intOf]; omega
    · go_wp2
      go_ret
      obtain rfl : k = n := by omega
      exact Made.mk rfl hown hbel
end Go.Proofs.Ytlfnhfipnjgifaa
