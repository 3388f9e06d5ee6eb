/- Plain laws of uses: how many slots lead to a page, and how many lead somewhere. No condition. -/
import Derived.Test.YtlfnhfipnjgifaaUses
namespace Go.Proofs.Ytlfnhfipnjgifaa
open Go.RowKit
set_option linter.unusedVariables false
set_option linter.unusedSimpArgs false

theorem usesTo_len (l : List Sl) (page : Int) (k : Nat) (hk : k ≤ l.length) : (usesTo l page k).length = ((l.take k).filter fun s => s.1 == page).length := by
  induction k with
  | zero => simp [usesTo]
  | succ k ih =>
    have hlt : k < l.length := by omega
    have e : usesTo l page (k + 1) = usesTo l page k ++ if (l.getD k noSlot).1 = page then [(k : Int)] else [] := rfl
    rw [e, List.length_append, ih (by omega), List.take_add_one, List.getElem?_eq_getElem hlt, List.getD_eq_getElem?_getD, List.getElem?_eq_getElem hlt]
    simp only [Option.getD_some, Option.toList_some, List.filter_append, List.length_append]
    by_cases h : l[k].1 = page <;> simp [h]
theorem usesOf_len (l : List Sl) (page : Int) : (usesOf l page).length = (l.filter fun s => s.1 == page).length := by
  unfold usesOf
  rw [usesTo_len l page _ (Nat.le_refl _), List.take_of_length_le (Nat.le_refl _)]
def usesSum (l : List Sl) : Nat → Nat
  | 0 => 0
  | j + 1 => usesSum l j + (if (j : Int) - 2 = -1 then 0 else (usesOf l ((j : Int) - 2)).length)
theorem usesSum_le (l : List Sl) (j : Nat) : usesSum l j ≤ j * l.length := by
  induction j with
  | zero => simp [usesSum]
  | succ j ih =>
    have h1 : (usesOf l ((j : Int) - 2)).length ≤ l.length := by rw [usesOf_len]; exact List.length_filter_le _ _
    have e : (j + 1) * l.length = j * l.length + l.length := Nat.succ_mul _ _
    unfold usesSum
    split <;> omega
def farS (s : Sl) : Bool := decide (s.1 < -2) || decide (8 < s.1)
theorem far_succ (l : List Sl) (k : Nat) (s : Sl) (h : l[k]? = some s) : (l.take (k + 1)).any farS = ((l.take k).any farS || farS s) := by
  rw [List.take_add_one, h]
  simp
theorem uses_law (l : List Sl) (h : l.any farS = false) : usesSum l 11 = mapped l := by
  have e : usesSum l 11 = (l.filter fun s => s.1 == -2).length + (l.filter fun s => s.1 == 0).length + (l.filter fun s => s.1 == 1).length + (l.filter fun s => s.1 == 2).length + (l.filter fun s => s.1 == 3).length + (l.filter fun s => s.1 == 4).length + (l.filter fun s => s.1 == 5).length + (l.filter fun s => s.1 == 6).length + (l.filter fun s => s.1 == 7).length + (l.filter fun s => s.1 == 8).length := by
    simp [usesSum, usesOf_len]
  rw [e]
  clear e
  induction l with
  | nil => rfl
  | cons s l ih =>
    simp only [List.any_cons, Bool.or_eq_false_iff] at h
    obtain ⟨h1, h2⟩ := h
    have ih := ih h2
    obtain ⟨p, r⟩ := s
    simp only [farS, Bool.or_eq_false_iff, decide_eq_false_iff_not] at h1
    have hp : p = -2 ∨ p = -1 ∨ p = 0 ∨ p = 1 ∨ p = 2 ∨ p = 3 ∨ p = 4 ∨ p = 5 ∨ p = 6 ∨ p = 7 ∨ p = 8 := by omega
    unfold mapped at ih ⊢
    rcases hp with rfl | rfl | rfl | rfl | rfl | rfl | rfl | rfl | rfl | rfl | rfl <;> simp [List.filter_cons] at ih ⊢ <;> omega
end Go.Proofs.Ytlfnhfipnjgifaa
