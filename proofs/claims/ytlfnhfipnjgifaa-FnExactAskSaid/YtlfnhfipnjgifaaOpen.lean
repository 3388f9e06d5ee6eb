/- An argument that is a slice of slots is opened to its cells. No condition. -/
import Derived.Test.YtlfnhfipnjgifaaMem
import Derived.Test.YtlfnhfipnjgifaaChecked
import Derived.ProofKit
import Derived.OpenShut
import Derived.Deep.Slices
import Derived.Deep.Fields
import Derived.ChangeSame
import Derived.Lib.SmallJoins
namespace Go.Proofs.Ytlfnhfipnjgifaa
open Go.RowKit
open Go.ChangeShapes Go.WideShapes Go.Deep
set_option linter.unusedVariables false

section
variable {H : Type} {enc : TypeId × Value → H} {P : Program} {w : World} {base : Nat} {spare : Nat → Bool} {held : Bool}
theorem open_slice_fields {t e : TypeId} {fs : Array Field} {fuel : Nat} {cs : List Value} {x : DataW H × List MemPlace} (ht : P.underlying t = some (.slice e)) (he : P.underlying e = some (.struct fs))
    (hone : oneCellFields P fs = true) (hC : P.cellsOf e = fs.size) (h : DataW.trod enc P w base spare held fuel t cs = some x) :
    (cs = [.slice none 0 0] ∧ x = (.nil, [])) ∨
    ∃ (a : Addr) (len cap m : Nat), cs = [.slice (some a) len cap] ∧ base ≤ a.block ∧ len ≤ cap ∧ cap ≤ maxLen ∧ m = (if spare a.block then cap else len) ∧
      ∀ i, i < m → ∀ (j : Nat) (f : Field), fs[j]? = some f → ∃ (v : Value) (y : DataW H × List MemPlace) (n : Nat), w.cell? (a.add (i * fs.size + j)) = some v ∧ DataW.trod enc P w base spare held n f.type [v] = some y := by
  rcases open_slice ht h with h0 | ⟨a, len, cap, m, n, D, Pl, hcs, hb, hl, hm, hmm, hx, hi⟩
  · exact .inl h0
  · refine .inr ⟨a, len, cap, m, hcs, hb, hl, hm, hmm, fun i him j f hj => ?_⟩
    obtain ⟨cs', hc, ht'⟩ := hi i him
    rw [hC] at hc
    obtain ⟨ys, n', hn', hy, hlen, hyl, hf⟩ := DataW.trod_struct he ht'
    obtain ⟨_, hcl, hat⟩ := World.cells?_some hc
    obtain ⟨ho, hk⟩ := hone_of hone j f hj
    have hjl : j < fs.size := (Array.getElem?_eq_some_iff.1 hj).1
    have hcell := hat j hjl
    have hv : cs'[j]? = some (cs'[j]'(by omega)) := List.getElem?_eq_getElem (by omega)
    have h1 := hf j f hj
    rw [ho, hk] at h1
    have hone' : (cs'.drop j).take 1 = [cs'[j]'(by omega)] := by
      rw [List.drop_eq_getElem_cons (by omega)]
      rfl
    rw [hone'] at h1
    have hys : ys[j]? = some (ys[j]'(by omega)) := List.getElem?_eq_getElem (by omega)
    refine ⟨_, _, _, ?_, h1.trans hys⟩
    rw [← Go.Deep.add_add, hcell, hv]
end
theorem below_step {a b c : World} (h : Below a.heap.size a b) (k : Below b.heap.size b c) : Below a.heap.size a c := h.trans (k.mono h.size)
/-- One value for each index, gathered in a list. -/
theorem list_of {α : Type} {p : Nat → α → Prop} : ∀ n : Nat, (∀ i, i < n → ∃ s, p i s) → ∃ l : List α, l.length = n ∧ ∀ i s, l[i]? = some s → p i s
  | 0, _ => ⟨[], rfl, fun i s h => by simp at h⟩
  | n + 1, h => by
    obtain ⟨l, hl, hp⟩ := list_of n fun i hi => h i (by omega)
    obtain ⟨s, hs⟩ := h n (by omega)
    refine ⟨l ++ [s], by simp [hl], fun i x hx => ?_⟩
    by_cases hi : i < n
    · rw [List.getElem?_append_left (by omega)] at hx
      exact hp i x hx
    · have hlt := (List.getElem?_eq_some_iff.1 hx).1
      simp only [List.length_append, List.length_cons, List.length_nil] at hlt
      obtain rfl : i = n := by omega
      rw [List.getElem?_append_right (by omega), hl, Nat.sub_self] at hx
      simp only [List.getElem?_cons_zero, Option.some.injEq] at hx
      exact hx ▸ hs
theorem slotCells_get {l : List Sl} {j : Nat} {u : Value} (h : (slotCells l)[j]? = some u) : ∃ s, l[j / 2]? = some s ∧ u = .int .i64 (if j % 2 = 0 then s.1 else s.2) := by
  have hlt := (List.getElem?_eq_some_iff.1 h).1
  rw [slotCells_length] at hlt
  have hk : j / 2 < l.length := by omega
  have a := slotCells_at l (j / 2) hk
  refine ⟨l[j / 2], List.getElem?_eq_getElem hk, ?_⟩
  rcases Nat.mod_two_eq_zero_or_one j with e | e
  · rw [show j / 2 * 2 = j by omega] at a
    have := h.symm.trans a.1
    simpa [e] using this
  · rw [show j / 2 * 2 + 1 = j by omega] at a
    have := h.symm.trans a.2
    simpa [e] using this

theorem open_slots {H : Type} {enc : TypeId × Value → H} {W : World} {a : Option Addr} {len cap : Nat} {d : DataW H} {p : List MemPlace}
    (h : DataW.Trod enc Try.prog W 0 (fun _ => true) true 33 (.slice a len cap) d p) : ∃ l : List Sl, Rd W 2 a len (slotCells l) ∧ len ≤ maxLen := by
  obtain ⟨fuel, hf⟩ := h
  rcases open_slice_fields Try.underlying33 Try.underlying98 (by kernel_rfl) (by kernel_rfl) hf with ⟨hcs, _⟩ | ⟨x, l, c, m, hcs, _, hl, hm, hmm, hcell⟩
  · simp [Value.cells] at hcs
    obtain ⟨rfl, rfl, rfl⟩ := hcs
    exact ⟨[], Rd.nil _ _ _, by simp⟩
  · simp [Value.cells] at hcs
    obtain ⟨rfl, rfl, rfl⟩ := hcs
    simp only [if_true] at hmm
    subst hmm
    obtain ⟨ls, hll, hp⟩ := list_of (p := fun i (s : Sl) => W.cell? (x.add (i * 2)) = some (.int .i64 s.1) ∧ W.cell? (x.add (i * 2 + 1)) = some (.int .i64 s.2)) len fun i hi => by
      obtain ⟨v0, y0, n0, hc0, ht0⟩ := hcell i (by omega) 0 _ rfl
      obtain ⟨v1, y1, n1, hc1, ht1⟩ := hcell i (by omega) 1 _ rfl
      obtain ⟨q0, hq0, _, _⟩ := DataW.trod_int Try.underlying3 ht0
      obtain ⟨q1, hq1, _, _⟩ := DataW.trod_int Try.underlying3 ht1
      simp only [List.cons.injEq, and_true] at hq0 hq1
      subst hq0 hq1
      exact ⟨(q0, q1), hc0, hc1⟩
    refine ⟨ls, ⟨by rw [slotCells_length, hll], fun hn => ?_⟩, by omega⟩
    obtain ⟨b, o, spot⟩ := x
    have hs : spot = none := by
      obtain ⟨s, hs⟩ : ∃ s, ls[0]? = some s := ⟨_, List.getElem?_eq_getElem (by omega)⟩
      have := (hp 0 s hs).1
      simpa [Addr.add] using World.cell?_spot this
    subst hs
    refine ⟨b, o, rfl, fun j u hu => ?_⟩
    obtain ⟨s, hs, rfl⟩ := slotCells_get hu
    have := hp _ s hs
    have hadd : ∀ q : Nat, (Addr.add ⟨b, o, none⟩ q) = ⟨b, o + q, none⟩ := by
      intro q
      by_cases hq : q = 0
      · subst hq; simp [Addr.add]
      · simp [Addr.add, hq]
    rw [hadd, hadd] at this
    rcases Nat.mod_two_eq_zero_or_one j with e | e
    · rw [if_pos e]
      rw [show j / 2 * 2 = j by omega] at this
      exact this.1
    · rw [if_neg (by omega)]
      rw [show j / 2 * 2 + 1 = j by omega] at this
      exact this.2
end Go.Proofs.Ytlfnhfipnjgifaa
