/- An argument that is a slice of bytes is opened to its cells; the laws' bound on it. No condition. -/
import Derived.Test.YthieianmlfejgaaDoorDraw
import Derived.Test.YthieianmlfejgaaDoorChecked
import Derived.ProofKit
import Derived.OpenShut
import Derived.Deep.Matrix
import Derived.ChangeSame
namespace Go.Proofs.YthieianmlfejgaaDoor
open Go.RowKit
open Go.ChangeShapes Go.WideShapes Go.Deep
set_option linter.unusedVariables false

theorem opn_bytes {H : Type} {enc : TypeId × Value → H} {W : World} {a : Option Addr} {len cap : Nat} {d : DataW H} {p : List MemPlace}
    (h : DataW.Trod enc Tryd.prog W 0 (fun _ => true) true 27 (.slice a len cap) d p) : ∃ l : Nat, Bytes W W.heap.size a len ∧ len ≤ maxLen := by
  obtain ⟨fuel, hf⟩ := h
  rcases open_ints Tryd.underlying27 Tryd.underlying5 (by kernel_rfl) hf with ⟨hcs, _⟩ | ⟨x, l, c, zs, hcs, _, hl, hm, hz, _, hcell, hwz⟩
  · simp [Value.cells] at hcs
    obtain ⟨rfl, rfl, rfl⟩ := hcs
    exact ⟨0, fun h => absurd h (by omega), by simp⟩
  · simp [Value.cells] at hcs
    obtain ⟨rfl, rfl, rfl⟩ := hcs
    have hz' : zs.length = cap := by simpa using hz
    refine ⟨0, fun hn => ?_, by omega⟩
    obtain ⟨b, o, spot⟩ := x
    have h0 := hcell 0 (by omega)
    have hs : spot = none := by simpa [Addr.add] using World.cell?_spot h0
    subst hs
    refine ⟨b, o, rfl, ?_, fun j hj => ?_⟩
    · rw [Addr.add_lit] at h0
      exact World.block_lt_of_cell? _ _ h0
    · have hc := hcell j (by omega)
      rw [Addr.add_lit] at hc
      have hr := range_u8 hwz j
      rw [← List.getD_eq_getElem?_getD] at hr
      exact ⟨_, by omega, by omega, hc⟩
theorem big_c (A : Option Addr) (n c : Nat) (w : World) (hn : n ≤ maxLen) : Calls Tryd.prog 10 #[.slice A n c] w fun e w' => e = .returned (.bool (decide (1048576 < n))) ∧ w = w' := by
  have hn' : n ≤ 9223372036854775807 := by simpa [maxLen] using hn
  go_enter Tryd.func10, Tryd.ntmps10
  by_cases h : 1048576 < n
  · go_wp2
    go_ret
    exact ⟨by simp [h]; omega, rfl⟩
  · go_wp2
    go_ret
    exact ⟨by simp [h]; omega, rfl⟩
end Go.Proofs.YthieianmlfejgaaDoor
