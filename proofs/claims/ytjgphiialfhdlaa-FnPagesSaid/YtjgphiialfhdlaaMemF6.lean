/- Contracts of memory functions: sizes of what they give. Bounds: at most 1048576 rows of at most 1048576 numbers. -/
import Derived.Test.YtjgphiialfhdlaaMemF5
namespace Go.Proofs.Ytjgphiialfhdlaa
open Go.RowKit
set_option linter.unusedVariables false
set_option maxHeartbeats 1000000

theorem pageAt_len (L : List (List Int)) (p : Int) (h : Rows L) : (pageAt L p).length ≤ 1048576 := by
  unfold pageAt
  split
  · unfold rowAt
    rw [List.getD_eq_getElem?_getD]
    rcases hl : L[p.toNat]? with _ | l
    · simp
    · exact h _ _ hl
  · simp
theorem set_rows {L : List (List Int)} {k : Nat} {l : List Int} (h : Rows L) (hl : l.length ≤ 1048576) : Rows (L.set k l) := by
  intro i x hx
  by_cases hi : i = k
  · subst hi
    by_cases hlt : i < L.length
    · rw [List.getElem?_set_self hlt] at hx
      injection hx with hx
      rw [← hx]
      exact hl
    · rw [List.getElem?_eq_none (by simp; omega)] at hx
      cases hx
  · rw [List.getElem?_set_ne (Ne.symm hi)] at hx
    exact h i x hx
theorem sum_set (L : List (List Int)) (k : Nat) (l x : List Int) (h : L[k]? = some x) : sumLen (L.set k l) + x.length = sumLen L + l.length := by
  induction L generalizing k with
  | nil => simp at h
  | cons a r ih =>
    cases k with
    | zero =>
      simp only [List.getElem?_cons_zero, Option.some.injEq] at h
      subst h
      simp only [List.set_cons_zero, sumLen, List.map_cons, List.sum_cons]
      omega
    | succ k =>
      have := ih k (by simpa using h)
      simp only [List.set_cons_succ, sumLen, List.map_cons, List.sum_cons] at this ⊢
      omega
theorem withCell_rows (L : List (List Int)) (p q v : Int) (h : Rows L) : Rows (withCell L p q v) := by
  unfold withCell
  split
  · refine set_rows h ?_
    rw [List.length_set]
    unfold rowAt
    rw [List.getD_eq_getElem?_getD]
    rcases hl : L[p.toNat]? with _ | l
    · simp
    · exact h _ _ hl
  · exact h
theorem withCell_sum (L : List (List Int)) (p q v : Int) : sumLen (withCell L p q v) = sumLen L := by
  unfold withCell
  split
  · rename_i h
    rw [Bool.and_eq_true] at h
    obtain ⟨k, j, l, x, rfl, rfl, hk, hj⟩ := has2_true h.1
    have := sum_set L k (l.set j v) l hk
    rw [List.length_set] at this
    rw [rowAt_of hk, Int.toNat_natCast, Int.toNat_natCast]
    omega
  · rfl
theorem withPage_rows (L : List (List Int)) (p : Int) (cs : List Int) (h : Rows L) : Rows (withPage L p cs) := by
  unfold withPage
  split
  · rename_i hc
    rw [Bool.and_eq_true] at hc
    exact set_rows h (by rw [((pageOk_iff cs).1 hc.2).1]; omega)
  · exact h
theorem withPage_sum (L : List (List Int)) (p : Int) (cs : List Int) : sumLen (withPage L p cs) ≤ sumLen L + 4 := by
  unfold withPage
  split
  · rename_i hc
    rw [Bool.and_eq_true] at hc
    obtain ⟨a, b⟩ : 0 ≤ p ∧ p < L.length := by simpa [hasB] using hc.1
    obtain ⟨k, rfl⟩ := Int.eq_ofNat_of_zero_le a
    have hk : k < L.length := by omega
    have := sum_set L k cs _ (List.getElem?_eq_getElem hk)
    rw [Int.toNat_natCast]
    have h4 := ((pageOk_iff cs).1 hc.2).1
    omega
  · omega
theorem memNew_len (n : Int) : (memNew n).length ≤ 24 := by
  have := brought24 n
  unfold memNew
  rw [List.length_replicate]
  omega
theorem memNew_rows (n : Int) : Rows (memNew n) := by
  intro i l h
  have := List.mem_of_getElem? h
  rw [List.eq_of_mem_replicate this]
  simp
theorem memNew_sum (n : Int) : sumLen (memNew n) ≤ 96 := by
  have := brought24 n
  unfold memNew sumLen
  rw [List.map_replicate, List.sum_replicate_nat]
  simp only [List.length_cons, List.length_nil]
  omega
end Go.Proofs.Ytjgphiialfhdlaa
