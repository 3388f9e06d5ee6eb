/- Contracts of the laws' own functions on slices of numbers: size, copy, compare, mark, hold. The slices hold at most 1048576 numbers. -/
import Derived.Test.YthieianmlfejgaaDoorQuiet
import Derived.Test.YthieianmlfejgaaDoorMem
import Derived.Test.YthieianmlfejgaaDoorApp
import Derived.Test.YthieianmlfejgaaDoorChecked
import Derived.WalkKit
import Derived.ProofKit
import Derived.Handy
import Derived.Outline
namespace Go.Proofs.YthieianmlfejgaaDoor
open Go.RowKit
set_option linter.unusedVariables false
set_option maxHeartbeats 1000000

theorem info_int' : (Tryd.prog.info? 3).map (fun i => (i.zero, i.size, i.bytes)) = some (some (.int .i64 0), 1, 8) := by kernel_rfl
theorem marksInt_length (m : Int) (n : Nat) : (marksInt m n).length = n := by simp [marksInt]
theorem marksInt_at (m : Int) (n i : Nat) (h : i < n) : (marksInt m n)[i]? = some (m + i) := by simp [marksInt, h]
theorem marksInt_fill (l : List Int) (n k : Nat) (m : Int) (hl : l.length = n) (hk : k < n) : (marksInt m k ++ l.drop k).set k (m + k) = marksInt m (k + 1) ++ l.drop (k + 1) := by
  have hm : marksInt m (k + 1) = marksInt m k ++ [m + (k : Int)] := by simp [marksInt, List.range_succ]
  rw [List.set_append_right _ _ (by rw [marksInt_length]; exact Nat.le_refl _), marksInt_length, Nat.sub_self, List.drop_eq_getElem_cons (by omega), List.set_cons_zero, hm]
  simp
theorem ints_fill (l : List Int) (n k : Nat) (p : Int) (hl : l[k]? = some p) (hk : k < n) : (l.take k ++ List.replicate (n - k) (0 : Int)).set k p = l.take (k + 1) ++ List.replicate (n - (k + 1)) 0 := by
  have hlt : k < l.length := (List.getElem?_eq_some_iff.1 hl).1
  have e : n - k = (n - (k + 1)) + 1 := by omega
  rw [e, List.replicate_succ, List.set_append_right _ _ (by simp; omega), List.take_add_one, hl]
  simp [Nat.min_eq_left (Nat.le_of_lt hlt)]
theorem intCells_set (l : List Int) (k : Nat) (p : Int) : (intCells l).set k (.int .i64 p) = intCells (l.set k p) := by simp [intCells, List.map_set]
theorem intCells_length (l : List Int) : (intCells l).length = l.length := by simp [intCells]
theorem own_int_at {w : World} {base n cap g : Nat} {e : TypeId} {l : List Int} (h : w.ownsRow base e 1 (.slice (some ⟨g, 0, none⟩) n cap) n (intCells l)) (k : Nat) (hk : k < n) :
    ∃ p, l[k]? = some p ∧ w.cell? ⟨g, k, none⟩ = some (.int .i64 p) ∧ w.frozen? ⟨g, k, none⟩ = false := by
  have hl : l.length = n := by have := h.1; rw [intCells_length] at this; omega
  refine ⟨l[k], by rw [List.getElem?_eq_getElem (by omega)], (h.cellAt k (by omega)).trans ?_, h.frozenAt _⟩
  simp [intCells, List.getElem?_eq_getElem (show k < l.length by omega)]
theorem own_int_set {w : World} {base n cap g : Nat} {e : TypeId} {l : List Int} (h : w.ownsRow base e 1 (.slice (some ⟨g, 0, none⟩) n cap) n (intCells l)) (k : Nat) (p : Int) :
    (w.setCell ⟨g, k, none⟩ (.int .i64 p)).ownsRow base e 1 (.slice (some ⟨g, 0, none⟩) n cap) n (intCells (l.set k p)) ∧ w.grownBy (w.setCell ⟨g, k, none⟩ (.int .i64 p)) (some g) := by
  have a := h.stored k (.int .i64 p)
  rw [intCells_set] at a
  exact a

end Go.Proofs.YthieianmlfejgaaDoor
