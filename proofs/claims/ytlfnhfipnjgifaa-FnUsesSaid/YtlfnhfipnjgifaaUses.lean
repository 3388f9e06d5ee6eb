/- Contracts of table functions: UsesOf. The tables hold at most 1048576 slots. -/
import Derived.Test.YtlfnhfipnjgifaaTab
namespace Go.Proofs.Ytlfnhfipnjgifaa
open Go.RowKit
set_option linter.unusedVariables false
set_option maxHeartbeats 1000000

def usesTo (l : List Sl) (page : Int) : Nat → List Int
  | 0 => []
  | k + 1 => usesTo l page k ++ if (l.getD k noSlot).1 = page then [(k : Int)] else []
def usesOf (l : List Sl) (page : Int) : List Int := usesTo l page l.length
theorem usesTo_le (l : List Sl) (page : Int) (k : Nat) : (usesTo l page k).length ≤ k := by
  induction k with
  | zero => simp [usesTo]
  | succ k ih =>
    rw [usesTo, List.length_append]
    split
    · simp only [List.length_cons, List.length_nil]; omega
    · simp only [List.length_nil]; omega
theorem info_int : (Try.prog.info? 3).map (fun i => (i.zero, i.size, i.bytes)) = some (some (.int .i64 0), 1, 8) := by kernel_rfl
theorem sUsesOf_c (A : Option Addr) (n c : Nat) (l : List Sl) (page : Int) (w : World) (ha : Rd w 2 A n (slotCells l)) (hn : n ≤ 1048576) :
    Calls Try.prog 48 #[.slice A n c, .int .i64 page] w (Made w 3 1 (usesOf l page).length (intCells (usesOf l page))) := by
  have hl := slots_len ha
  obtain ⟨i0, hi, hz0, hz1, hz2⟩ := info_parts info_int
  go_enter Try.func48, Try.ntmps48
  go_wp2
  have hown0 := World.ownsRow_lit (base := w.heap.size) (e := 3) (size := 1) w #[] 0 (Nat.le_refl _) (by simp) (by simp)
  go_loopw [5, 6] (fun v i wr => ∃ (k : Nat) (G : Option Addr) (cc : Nat), k ≤ n ∧ i = .int .i64 k ∧ v = .slice G (usesTo l page k).length cc ∧ wr.ownsRow w.heap.size 3 1 (.slice G (usesTo l page k).length cc) (usesTo l page k).length (intCells (usesTo l page k)) ∧ Below w.heap.size w wr) (fun _ i _ => n - (intOf i).toNat)
  case atStart => exact ⟨0, _, _, by omega, rfl, rfl, by simpa [intCells, usesTo] using hown0, (Below.refl _ _).alloc (Nat.le_refl _) _⟩
  case round =>
    obtain ⟨k, G, cc, hk, rfl, rfl, hown, hbel⟩ := hrel
    clear hown0
    have hle := usesTo_le l page k
    have hst : usesTo l page (k + 1) = usesTo l page k ++ if (l.getD k noSlot).1 = page then [(k : Int)] else [] := rfl
    generalize hu : usesTo l page k = U at hown hle hst
    have HU := Lib.hid hu
    clear hu
    by_cases hlt : k < n
    · obtain ⟨b, o, p, q, rfl, hlk, c0, c1⟩ := (ha.below hbel).slot k hlt
      rw [List.getD_eq_getElem?_getD, hlk] at hst
      simp only [Option.getD_some] at hst
      have H2 := Lib.hid hl
      clear hlk hl
      cases hp : (p == page)
      · rw [if_neg (by simpa using hp)] at hst
        have HS := Lib.hid hst
        clear hst
        go_wp2
        go_roundw
        case rel => exact ⟨k + 1, G, cc, by omega, by go_num, by rw [HS.out]; simp, by rw [HS.out]; simpa using hown, hbel⟩
        case measure => simp [intOf]; omega
      · rw [if_pos (by simpa using hp)] at hst
        have HS := Lib.hid hst
        clear hst
        have hbel2 := hbel
        have hbel2' := hbel2
        go_wp2_with (at_builtin; refine wpList_append_own _ rfl _ _ 47 rfl w.heap.size 3 i0 (.int .i64 0) 1 8 Try.underlying47 hi hz0 hz1 hz2 rfl (by decide) (.slice G U.length cc) U.length (intCells U) rfl (hown.alloc _) ⟨wr.heap.size, 0, none⟩ 1 1 [.int .i64 k] rfl rfl ?c1 ?c2 ?c3 ?c4 ?c5 ?_)
        case c1 => exact new_one wr #[.int .i64 k] _
        case c2 => intro u hu; simp at hu; subst hu; rfl
        case c3 => unfold maxLen; omega
        case c4 => omega
        case c5 => have := hbel.size; simp; omega
        intro v' w3 hown3 hgr3 _
        have hbel3 := below_grown (hbel2.alloc hbel2.size _) (hown.alloc _) (Nat.le_refl _) hgr3
        obtain ⟨G', cc', rfl⟩ := own_shape hown3
        have hlen : (U ++ [(k : Int)]).length = U.length + 1 := by simp
        have HO : Hid (w3.ownsRow w.heap.size 3 1 (.slice G' (U.length + 1) cc') (U.length + 1) (intCells (U ++ [(k : Int)]))) := by
          show w3.ownsRow w.heap.size 3 1 (.slice G' (U.length + 1) cc') (U.length + 1) (intCells (U ++ [(k : Int)]))
          simpa [intCells] using hown3
        clear hown3 hgr3 hbel2 hbel2' hown hlen
        go_wp2
        go_roundw
        case rel =>
          refine ⟨k + 1, G', cc', by omega, by go_num, ?_, ?_, hbel3⟩
          · rw [HS.out]; simp
          · rw [HS.out]; simpa using HO.out
        case measure => simp [intOf]; omega
    · go_wp2
      go_ret
      obtain rfl : k = n := by omega
      refine Made.mk rfl ?_ hbel
      unfold usesOf
      rw [hl, HU.out]
      exact hown
theorem iUsesOf_c (A : Option Addr) (n c : Nat) (l : List Sl) (page : Int) (w : World) (ha : Rd w 2 A n (slotCells l)) (hn : n ≤ 1048576) :
    Calls Try.prog 46 #[.slice A n c, .int .i64 page] w (Made w 3 1 (usesOf l page).length (intCells (usesOf l page))) := by
  have hl := slots_len ha
  obtain ⟨i0, hi, hz0, hz1, hz2⟩ := info_parts info_int
  go_enter Try.func46, Try.ntmps46
  go_wp2
  have hown0 := World.ownsRow_lit (base := w.heap.size) (e := 3) (size := 1) w #[] 0 (Nat.le_refl _) (by simp) (by simp)
  go_loopw [5, 11] (fun v i wr => ∃ (k : Nat) (G : Option Addr) (cc : Nat), k ≤ n ∧ i = .int .i64 k ∧ v = .slice G (usesTo l page k).length cc ∧ wr.ownsRow w.heap.size 3 1 (.slice G (usesTo l page k).length cc) (usesTo l page k).length (intCells (usesTo l page k)) ∧ Below w.heap.size w wr) (fun _ i _ => n - (intOf i).toNat)
  case atStart => exact ⟨0, _, _, by omega, rfl, rfl, by simpa [intCells, usesTo] using hown0, (Below.refl _ _).alloc (Nat.le_refl _) _⟩
  case round =>
    obtain ⟨k, G, cc, hk, rfl, rfl, hown, hbel⟩ := hrel
    clear hown0
    have hle := usesTo_le l page k
    have hst : usesTo l page (k + 1) = usesTo l page k ++ if (l.getD k noSlot).1 = page then [(k : Int)] else [] := rfl
    generalize hu : usesTo l page k = U at hown hle hst
    have HU := Lib.hid hu
    clear hu
    by_cases hlt : k < n
    · obtain ⟨b, o, p, q, rfl, hlk, c0, c1⟩ := (ha.below hbel).slot k hlt
      rw [List.getD_eq_getElem?_getD, hlk] at hst
      simp only [Option.getD_some] at hst
      have H2 := Lib.hid hl
      clear hlk hl
      cases hp : (p == page)
      · rw [if_neg (by simpa using hp)] at hst
        have HS := Lib.hid hst
        clear hst
        go_wp2
        go_roundw
        case rel => exact ⟨k + 1, G, cc, by omega, by go_num, by rw [HS.out]; simp, by rw [HS.out]; simpa using (hown.alloc (.cells #[.int .i64 p, .int .i64 q] 41)), (hbel.alloc hbel.size (.cells #[.int .i64 p, .int .i64 q] 41))⟩
        case measure => simp [intOf]; omega
      · rw [if_pos (by simpa using hp)] at hst
        have HS := Lib.hid hst
        clear hst
        have hbel2 := (hbel.alloc hbel.size (.cells #[.int .i64 p, .int .i64 q] 41))
        have hbel2' := hbel2
        go_wp2_with (at_builtin; refine wpList_append_own _ rfl _ _ 47 rfl w.heap.size 3 i0 (.int .i64 0) 1 8 Try.underlying47 hi hz0 hz1 hz2 rfl (by decide) (.slice G U.length cc) U.length (intCells U) rfl ((hown.alloc (.cells #[.int .i64 p, .int .i64 q] 41)).alloc _) ⟨wr.heap.size + 1, 0, none⟩ 1 1 [.int .i64 k] rfl rfl ?c1 ?c2 ?c3 ?c4 ?c5 ?_)
        case c1 => have h := new_one (wr.alloc (.cells #[.int .i64 p, .int .i64 q] 41)) #[.int .i64 k] 3; simpa only [World.size_alloc] using h
        case c2 => intro u hu; simp at hu; subst hu; rfl
        case c3 => unfold maxLen; omega
        case c4 => omega
        case c5 => have := hbel.size; simp; omega
        intro v' w3 hown3 hgr3 _
        have hbel3 := below_grown (hbel2.alloc hbel2.size _) ((hown.alloc (.cells #[.int .i64 p, .int .i64 q] 41)).alloc _) (Nat.le_refl _) hgr3
        obtain ⟨G', cc', rfl⟩ := own_shape hown3
        have hlen : (U ++ [(k : Int)]).length = U.length + 1 := by simp
        have HO : Hid (w3.ownsRow w.heap.size 3 1 (.slice G' (U.length + 1) cc') (U.length + 1) (intCells (U ++ [(k : Int)]))) := by
          show w3.ownsRow w.heap.size 3 1 (.slice G' (U.length + 1) cc') (U.length + 1) (intCells (U ++ [(k : Int)]))
          simpa [intCells] using hown3
        clear hown3 hgr3 hbel2 hbel2' hown hlen
        go_wp2
        go_roundw
        case rel =>
          refine ⟨k + 1, G', cc', by omega, by go_num, ?_, ?_, hbel3⟩
          · rw [HS.out]; simp
          · rw [HS.out]; simpa using HO.out
        case measure => simp [intOf]; omega
    · go_wp2
      go_ret
      obtain rfl : k = n := by omega
      refine Made.mk rfl ?_ hbel
      unfold usesOf
      rw [hl, HU.out]
      exact hown
end Go.Proofs.Ytlfnhfipnjgifaa
