/- An argument that is a Kept is opened to the cells of its two slices. No condition. -/
import Derived.Test.YtlfnhfipnjgifaaBoolL
import Derived.Test.YtlfnhfipnjgifaaOpen
import Derived.Deep.Grids
namespace Go.Proofs.Ytlfnhfipnjgifaa
open Go.RowKit
open Go.ChangeShapes Go.WideShapes Go.Deep
set_option linter.unusedVariables false

theorem open_bools_f {H : Type} {enc : TypeId × Value → H} {W : World} {v : Value} {n : Nat} {y : DataW H × List MemPlace}
    (h : DataW.trod enc Try.prog W 0 (fun _ => true) true n 27 [v] = some y) : ∃ (a : Option Addr) (len cap : Nat) (l : List Bool), v = .slice a len cap ∧ Rd W 1 a len (boolCells l) ∧ len ≤ maxLen := by
  rcases open_bools Try.underlying27 Try.underlying4 (by kernel_rfl) h with ⟨hcs, _⟩ | ⟨x, len, cap, B, hcs, _, hl, hm, _, hc⟩
  · simp only [List.cons.injEq, and_true] at hcs
    subst hcs
    exact ⟨none, 0, 0, [], rfl, Rd.nil _ _ _, by simp⟩
  · simp only [List.cons.injEq, and_true] at hcs
    subst hcs
    refine ⟨some x, len, cap, (List.range len).map B, rfl, ⟨by simp [boolCells], fun hn => ?_⟩, by omega⟩
    obtain ⟨b, o, spot⟩ := x
    have h0 := hc 0 (by omega)
    have hs : spot = none := by simpa [Addr.add] using World.cell?_spot h0
    subst hs
    refine ⟨b, o, rfl, fun j u hu => ?_⟩
    have hlt := (List.getElem?_eq_some_iff.1 hu).1
    simp [boolCells] at hlt
    have := hc j (by omega)
    have hadd : (Addr.add ⟨b, o, none⟩ j) = ⟨b, o + j, none⟩ := by
      by_cases hq : j = 0
      · subst hq; simp [Addr.add]
      · simp [Addr.add, hq]
    rw [hadd] at this
    rw [this, ← hu]
    simp [boolCells, hlt]
theorem open_slots_f {H : Type} {enc : TypeId × Value → H} {W : World} {v : Value} {n : Nat} {y : DataW H × List MemPlace}
    (h : DataW.trod enc Try.prog W 0 (fun _ => true) true n 33 [v] = some y) : ∃ (a : Option Addr) (len cap : Nat) (l : List Sl), v = .slice a len cap ∧ Rd W 2 a len (slotCells l) ∧ len ≤ maxLen := by
  rcases open_slice_fields Try.underlying33 Try.underlying98 (by kernel_rfl) (by kernel_rfl) h with ⟨hcs, _⟩ | ⟨x, l, c, m, hcs, _, _, _, _, _⟩
  · simp only [List.cons.injEq, and_true] at hcs
    subst hcs
    exact ⟨none, 0, 0, [], rfl, Rd.nil _ _ _, by simp⟩
  · simp only [List.cons.injEq, and_true] at hcs
    subst hcs
    obtain ⟨ls, h1, h2⟩ := open_slots (d := y.1) (p := y.2) (a := some x) (len := l) (cap := c) (W := W) (enc := enc) ⟨n, by simpa [Value.cells] using h⟩
    exact ⟨some x, l, c, ls, rfl, h1, h2⟩
end Go.Proofs.Ytlfnhfipnjgifaa
