/- Plain laws of memories: what stands in a cell behind a writing, what in a page. No condition. -/
import Derived.Test.YtjgphiialfhdlaaMemF6
namespace Go.Proofs.Ytjgphiialfhdlaa
open Go.RowKit
set_option linter.unusedVariables false
set_option linter.unusedSimpArgs false

theorem cellAt_of {L : List (List Int)} {k j : Nat} {l : List Int} {x : Int} (hl : L[k]? = some l) (hx : l[j]? = some x) : cellAt L (k : Int) (j : Int) = x := by
  have hk := (List.getElem?_eq_some_iff.1 hl).1
  have hj := (List.getElem?_eq_some_iff.1 hx).1
  have hr : rowAt L (k : Int) = l := rowAt_of hl
  have h2 : has2 L (k : Int) (j : Int) = true := by simp [has2, hr, hasB]; omega
  simp [cellAt, h2, hr, hx]
theorem withCell_len (L : List (List Int)) (p q v : Int) : (withCell L p q v).length = L.length := by
  unfold withCell
  split <;> simp
theorem cells_law (L : List (List Int)) (p q v : Int) (k j : Nat) (l : List Int) (x : Int) (hl : L[k]? = some l) (hx : l[j]? = some x) :
    cellAt (withCell L p q v) (k : Int) (j : Int) = if (k : Int) = p ∧ (j : Int) = q ∧ 0 ≤ v ∧ v ≤ 99 then v else x := by
  have hk := (List.getElem?_eq_some_iff.1 hl).1
  have hj := (List.getElem?_eq_some_iff.1 hx).1
  by_cases hv : 0 ≤ v ∧ v ≤ 99
  · by_cases hp : (k : Int) = p
    · subst hp
      by_cases hq : (j : Int) = q
      · subst hq
        have hr : rowAt L (k : Int) = l := rowAt_of hl
        have h2 : has2 L (k : Int) (j : Int) = true := by simp [has2, hr, hasB]; omega
        have hi : inB v 0 99 = true := by simp [inB]; omega
        rw [if_pos ⟨rfl, rfl, hv⟩]
        unfold withCell
        rw [h2, hi]
        simp only [Bool.and_self, if_true, hr, Int.toNat_natCast]
        refine cellAt_of (l := l.set j v) ?_ ?_
        · rw [List.getElem?_set_self hk]
        · rw [List.getElem?_set_self hj]
      · rw [if_neg (fun h => hq h.2.1)]
        unfold withCell
        split
        · rename_i hc
          rw [Bool.and_eq_true] at hc
          obtain ⟨k', j', l', x', e1, rfl, hl', hx'⟩ := has2_true hc.1
          obtain rfl : k = k' := by omega
          rw [hl] at hl'
          injection hl' with hl'
          subst hl'
          rw [rowAt_of hl]
          simp only [Int.toNat_natCast]
          refine cellAt_of (l := l.set j' v) ?_ ?_
          · rw [List.getElem?_set_self hk]
          · rw [List.getElem?_set_ne (by omega)]; exact hx
        · exact cellAt_of hl hx
    · rw [if_neg (fun h => hp h.1)]
      unfold withCell
      split
      · rename_i hc
        rw [Bool.and_eq_true] at hc
        obtain ⟨k', j', l', x', rfl, rfl, hl', hx'⟩ := has2_true hc.1
        refine cellAt_of (l := l) ?_ hx
        simp only [Int.toNat_natCast]
        rw [List.getElem?_set_ne (by omega)]
        exact hl
      · exact cellAt_of hl hx
  · have hi : inB v 0 99 = false := by
      rw [Bool.eq_false_iff]
      intro h
      simp [inB] at h
      exact hv h
    rw [if_neg (fun h => hv h.2.2)]
    unfold withCell
    rw [hi]
    simp only [Bool.and_false, Bool.false_eq_true, if_false]
    exact cellAt_of hl hx
theorem withPage_len (L : List (List Int)) (p : Int) (cs : List Int) : (withPage L p cs).length = L.length := by
  unfold withPage
  split <;> simp
theorem pageAt_of {L : List (List Int)} {k : Nat} {l : List Int} (hl : L[k]? = some l) : pageAt L (k : Int) = l := by
  have hk := (List.getElem?_eq_some_iff.1 hl).1
  have hb : hasB (k : Int) (L.length : Int) = true := by simp [hasB]; omega
  unfold pageAt
  rw [if_pos hb, rowAt_of hl]
theorem pages_law (L : List (List Int)) (p : Int) (cs : List Int) (k : Nat) (l : List Int) (hl : L[k]? = some l) (hne : (k : Int) ≠ p) : pageAt (withPage L p cs) (k : Int) = l := by
  refine pageAt_of ?_
  unfold withPage
  split
  · rename_i hc
    rw [Bool.and_eq_true] at hc
    have : 0 ≤ p := by have := hc.1; simp [hasB] at this; omega
    rw [List.getElem?_set_ne (by omega)]
    exact hl
  · exact hl
theorem page_put (L : List (List Int)) (p : Int) (cs : List Int) (h0 : 0 ≤ p) (h1 : p < L.length) (hc : pageOk cs = true) : pageAt (withPage L p cs) p = cs := by
  obtain ⟨k, rfl⟩ := Int.eq_ofNat_of_zero_le h0
  refine pageAt_of ?_
  have hb : hasB (k : Int) (L.length : Int) = true := by simp [hasB]; omega
  unfold withPage
  rw [hb, hc]
  simp only [Bool.and_self, if_true, Int.toNat_natCast]
  rw [List.getElem?_set_self (by omega)]
end Go.Proofs.Ytjgphiialfhdlaa
