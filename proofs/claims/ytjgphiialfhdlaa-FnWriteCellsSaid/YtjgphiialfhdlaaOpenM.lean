/- Arguments that are slices of numbers, and slices of such slices, are opened to their cells. No condition. -/
import Derived.Test.YtjgphiialfhdlaaMx
import Derived.Test.YtjgphiialfhdlaaChecked
import Derived.ProofKit
import Derived.OpenShut
import Derived.Deep.Matrix
import Derived.ChangeSame
namespace Go.Proofs.Ytjgphiialfhdlaa
open Go.RowKit
open Go.ChangeShapes Go.WideShapes Go.Deep
set_option linter.unusedVariables false

theorem below_step {a b c : World} (h : Below a.heap.size a b) (k : Below b.heap.size b c) : Below a.heap.size a c := h.trans (k.mono h.size)
theorem below_S {W w w' : World} {S : Nat → Prop} (hB : Below W.heap.size W w) (hg : GrownS w w' S) (hS : ∀ k, S k → W.heap.size ≤ k) : Below W.heap.size W w' :=
  hB.trans ⟨hg.os, hg.tape, hg.output, hg.size, fun k hk => by
    by_cases hlt : k < w.heap.size
    · exact hg.block k hlt (fun hs => by have := hS k hs; omega)
    · have := hB.size; omega⟩
theorem add_none (b o q : Nat) : (Addr.add ⟨b, o, none⟩ q) = ⟨b, o + q, none⟩ := by
  by_cases hq : q = 0
  · subst hq; simp [Addr.add]
  · simp [Addr.add, hq]
theorem rd_of_cells {W : World} {x : Addr} {len : Nat} {zs : List Int} (hl : len ≤ zs.length) (hc : ∀ i, i < zs.length → W.cell? (x.add i) = some (.int .i64 (zs.getD i 0))) : Rd W 1 (some x) len (intCells (zs.take len)) := by
  refine ⟨by simp [intCells]; omega, fun hn => ?_⟩
  obtain ⟨b, o, spot⟩ := x
  have hs : spot = none := by
    have := hc 0 (by omega)
    simpa [Addr.add] using World.cell?_spot this
  subst hs
  refine ⟨b, o, rfl, fun j u hu => ?_⟩
  simp only [intCells, List.getElem?_map, Option.map_eq_some_iff] at hu
  obtain ⟨q, hq, rfl⟩ := hu
  rw [List.getElem?_take] at hq
  split at hq
  · have hj : j < zs.length := (List.getElem?_eq_some_iff.1 hq).1
    have := hc j hj
    rw [add_none] at this
    rw [this, List.getD_eq_getElem?_getD, hq]
    rfl
  · cases hq
theorem opn_ints {H : Type} {enc : TypeId × Value → H} {W : World} {a : Option Addr} {len cap : Nat} {d : DataW H} {p : List MemPlace}
    (h : DataW.Trod enc Try.prog W 0 (fun _ => true) true 22 (.slice a len cap) d p) : ∃ l : List Int, Rd W 1 a len (intCells l) ∧ len ≤ maxLen := by
  obtain ⟨fuel, hf⟩ := h
  rcases open_ints Try.underlying22 Try.underlying3 (by kernel_rfl) hf with ⟨hcs, _⟩ | ⟨x, l, c, zs, hcs, _, hl, hm, hz, _, hcell, hwz⟩
  · simp [Value.cells] at hcs
    obtain ⟨rfl, rfl, rfl⟩ := hcs
    exact ⟨[], Rd.nil _ _ _, by simp⟩
  · simp [Value.cells] at hcs
    obtain ⟨rfl, rfl, rfl⟩ := hcs
    have hz' : zs.length = cap := by simpa using hz
    exact ⟨zs.take len, rd_of_cells (by omega) hcell, by omega⟩
theorem opn_intss {H : Type} {enc : TypeId × Value → H} {W : World} {a : Option Addr} {len cap : Nat} {d : DataW H} {p : List MemPlace}
    (h : DataW.Trod enc Try.prog W 0 (fun _ => true) true 26 (.slice a len cap) d p) : ∃ L : List (List Int), Mx W a len L ∧ len ≤ maxLen ∧ ∀ (i : Nat) (l : List Int), L[i]? = some l → l.length ≤ maxLen := by
  obtain ⟨fuel, hf⟩ := h
  rcases open_int_rows Try.underlying26 Try.underlying22 Try.underlying3 (by kernel_rfl) (by kernel_rfl) hf with ⟨hcs, _⟩ | ⟨x, l, c, A, L, C, Z, hcs, _, hl, hm, _, hrow⟩
  · simp [Value.cells] at hcs
    obtain ⟨rfl, rfl, rfl⟩ := hcs
    exact ⟨[], ⟨rfl, fun h => absurd h (by omega)⟩, by simp, fun i l h => by simp at h⟩
  · simp [Value.cells] at hcs
    obtain ⟨rfl, rfl, rfl⟩ := hcs
    have hget : ∀ (i : Nat) (q : List Int), ((List.range len).map fun r => (Z r).take (L r))[i]? = some q → i < len ∧ q = (Z i).take (L i) := by
      intro i q hq
      have hi : i < len := by
        have := (List.getElem?_eq_some_iff.1 hq).1
        simpa using this
      rw [List.getElem?_map, List.getElem?_range hi] at hq
      simp only [Option.map_some, Option.some.injEq] at hq
      exact ⟨hi, hq.symm⟩
    refine ⟨(List.range len).map fun r => (Z r).take (L r), ⟨by simp, fun hn => ?_⟩, by omega, fun i q hq => ?_⟩
    · obtain ⟨b, o, spot⟩ := x
      have hs : spot = none := by
        have := (hrow 0 (by omega)).1
        simpa [Addr.add] using World.cell?_spot this
      subst hs
      refine ⟨b, o, rfl, fun i q hq => ?_⟩
      obtain ⟨hi, rfl⟩ := hget i q hq
      obtain ⟨h1, h2, h3, h4, _, h5, h6⟩ := hrow i (by omega)
      have hlen : ((Z i).take (L i)).length = L i := by rw [List.length_take]; omega
      rw [hlen]
      rw [add_none] at h1
      refine ⟨A i, C i, h1, ?_⟩
      rcases hA : A i with _ | a'
      · have := h5 hA
        have h0 : L i = 0 := by omega
        rw [h0]
        exact ⟨by simp [intCells], fun h => absurd h (by omega)⟩
      · exact rd_of_cells (by omega) (fun c hc => (h6 a' hA).2 c (by omega))
    · obtain ⟨hi, rfl⟩ := hget i q hq
      obtain ⟨h1, h2, h3, h4, _⟩ := hrow i (by omega)
      rw [List.length_take]
      omega
end Go.Proofs.Ytjgphiialfhdlaa
