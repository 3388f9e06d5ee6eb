/- Slices of slices of numbers: what they read, what the call itself has made. Plain lemmas. No condition. -/
import Derived.Test.YtjgphiialfhdlaaIntL
namespace Go.Proofs.Ytjgphiialfhdlaa
open Go.RowKit
set_option linter.unusedVariables false

/-- '.slice A n _' reads as the rows L. -/
def Mx (w : World) (A : Option Addr) (n : Nat) (L : List (List Int)) : Prop :=
  L.length = n ∧ (0 < n → ∃ b o, A = some ⟨b, o, none⟩ ∧ ∀ i l, L[i]? = some l → ∃ Ai ci, w.cell? ⟨b, o + i, none⟩ = some (.slice Ai l.length ci) ∧ Rd w 1 Ai l.length (intCells l))
theorem Mx.below {w w' : World} {A : Option Addr} {n : Nat} {L : List (List Int)} (h : Mx w A n L) (hb : Below w.heap.size w w') : Mx w' A n L :=
  ⟨h.1, fun hn => by
    obtain ⟨b, o, e, hc⟩ := h.2 hn
    refine ⟨b, o, e, fun i l hl => ?_⟩
    obtain ⟨Ai, ci, h1, h2⟩ := hc i l hl
    exact ⟨Ai, ci, below_keep hb _ _ h1, h2.below hb⟩⟩
theorem Mx.row {w : World} {A : Option Addr} {n : Nat} {L : List (List Int)} (h : Mx w A n L) (k : Nat) (hk : k < n) :
    ∃ b o Ai ci l, A = some ⟨b, o, none⟩ ∧ L[k]? = some l ∧ w.cell? ⟨b, o + k, none⟩ = some (.slice Ai l.length ci) ∧ Rd w 1 Ai l.length (intCells l) := by
  obtain ⟨b, o, e, hc⟩ := h.2 (by omega)
  have hl : L[k]? = some (L[k]'(by have := h.1; omega)) := List.getElem?_eq_getElem _
  obtain ⟨Ai, ci, h1, h2⟩ := hc k _ hl
  exact ⟨b, o, Ai, ci, _, e, hl, h1, h2⟩
def Rows (L : List (List Int)) : Prop := ∀ (i : Nat) (l : List Int), L[i]? = some l → l.length ≤ 1048576

/-- The rows L, all of the call's own making from block 'base' on: the outer row holds the values vs; no two share a block. -/
structure OwnMx (w : World) (base : Nat) (A : Option Addr) (n c : Nat) (L : List (List Int)) (vs : List Value) : Prop where
  row : w.ownsRow base 22 1 (.slice A n c) n vs
  len : L.length = n
  rows : ∀ (i : Nat) (v : Value) (l : List Int), vs[i]? = some v → L[i]? = some l → ∃ Ai ci, v = .slice Ai l.length ci ∧ w.ownsRow base 3 1 v l.length (intCells l)
  apart : ∀ (i j : Nat) (v v' : Value), i ≠ j → vs[i]? = some v → vs[j]? = some v' → v.ownBlock = none ∨ v.ownBlock ≠ v'.ownBlock

section
variable {w w' : World} {base n c : Nat} {A : Option Addr} {L : List (List Int)} {vs : List Value}
theorem OwnMx.vlen (h : OwnMx w base A n c L vs) : vs.length = n := by have := h.row.1; omega
theorem OwnMx.mx (h : OwnMx w base A n c L vs) : Mx w A n L := by
  refine ⟨h.len, fun hn => ?_⟩
  obtain ⟨g, rfl⟩ := own_at h.row hn
  refine ⟨g, 0, rfl, fun i l hl => ?_⟩
  have hi : i < n := by have := (List.getElem?_eq_some_iff.1 hl).1; have := h.len; omega
  have hv : vs[i]? = some (vs[i]'(by have := h.vlen; omega)) := List.getElem?_eq_getElem _
  obtain ⟨Ai, ci, e, ho⟩ := h.rows i _ l hv hl
  rw [e] at hv ho
  exact ⟨Ai, ci, by rw [Nat.zero_add, h.row.cellAt i (by omega)]; exact hv, Rd.of_own ho⟩
theorem OwnMx.kept (h : OwnMx w base A n c L vs) (hb : Below w.heap.size w w') : OwnMx w' base A n c L vs :=
  ⟨own_kept h.row hb, h.len, fun i v l hv hl => by
    obtain ⟨Ai, ci, e, ho⟩ := h.rows i v l hv hl
    exact ⟨Ai, ci, e, own_kept ho hb⟩, h.apart⟩
theorem OwnMx.low (h : OwnMx w base A n c L vs) {b : Nat} (hb : b ≤ base) : OwnMx w b A n c L vs :=
  ⟨own_base h.row hb, h.len, fun i v l hv hl => by
    obtain ⟨Ai, ci, e, ho⟩ := h.rows i v l hv hl
    exact ⟨Ai, ci, e, own_base ho hb⟩, h.apart⟩
/-- Rows whose elements have different types lie in different blocks. -/
theorem own_type {e1 e2 : TypeId} {s1 s2 n1 n2 b1 b2 : Nat} {v1 v2 : Value} {x1 x2 : List Value} (h1 : w.ownsRow b1 e1 s1 v1 n1 x1) (h2 : w.ownsRow b2 e2 s2 v2 n2 x2) (hne : e1 ≠ e2) : v1.ownBlock = none ∨ v1.ownBlock ≠ v2.ownBlock := by
  rcases h1.2 with ⟨rfl, _⟩ | ⟨g1, cap1, cur1, rfl, _, hh1, _⟩
  · exact .inl rfl
  · refine .inr fun he => ?_
    rcases h2.2 with ⟨rfl, _⟩ | ⟨g2, cap2, cur2, rfl, _, hh2, _⟩
    · simp [Value.ownBlock] at he
    · simp only [Value.ownBlock, Option.some.injEq] at he
      subst he
      rw [hh1] at hh2
      injection hh2 with hh2
      injection hh2 with _ ht
      exact hne ht
/-- A world that differs from w in new blocks and in blocks of which S holds. -/
structure GrownS (w w' : World) (S : Nat → Prop) : Prop where
  os : w'.os = w.os
  tape : w'.tape = w.tape
  output : w'.output = w.output
  size : w.heap.size ≤ w'.heap.size
  block : ∀ k, k < w.heap.size → ¬ S k → w'.heap[k]? = w.heap[k]?
theorem GrownS.refl (w : World) (S : Nat → Prop) : GrownS w w S := ⟨rfl, rfl, rfl, Nat.le_refl _, fun _ _ _ => rfl⟩
theorem GrownS.trans {a b d : World} {S : Nat → Prop} (h : GrownS a b S) (k : GrownS b d S) : GrownS a d S :=
  ⟨k.os.trans h.os, k.tape.trans h.tape, k.output.trans h.output, Nat.le_trans h.size k.size, fun i hi hs => (k.block i (Nat.lt_of_lt_of_le hi h.size) hs).trans (h.block i hi hs)⟩
theorem GrownS.of_grown {a b : World} {S : Nat → Prop} {row : Option Nat} (h : a.grownBy b row) (hs : ∀ k, row = some k → S k) : GrownS a b S :=
  ⟨h.os, h.tape, h.output, h.size, fun i hi hn => h.block i hi (fun e => hn (hs i e.symm))⟩
theorem own_keptS {b e size m : Nat} {v : Value} {xs : List Value} {S : Nat → Prop} (h : w.ownsRow b e size v m xs) (hg : GrownS w w' S) (hne : ∀ k, v.ownBlock = some k → ¬ S k) : w'.ownsRow b e size v m xs := by
  refine ⟨h.1, ?_⟩
  rcases h.2 with h2 | ⟨g, cap, cur, hv, hb, hh, r⟩
  · exact .inl h2
  · refine .inr ⟨g, cap, cur, hv, hb, ?_, r⟩
    have hlt : g < w.heap.size := (h.lt g (by rw [hv]; rfl)).2
    rw [hg.block g hlt (hne g (by rw [hv]; rfl))]
    exact hh
/-- The blocks of the rows (not the outer one). -/
def inRows (vs : List Value) (k : Nat) : Prop := ∃ (i : Nat) (v : Value), vs[i]? = some v ∧ v.ownBlock = some k
theorem OwnMx.inRows_lt (h : OwnMx w base A n c L vs) {k : Nat} (hk : inRows vs k) : base ≤ k ∧ k < w.heap.size := by
  obtain ⟨i, v, hv, hb⟩ := hk
  have hi := (List.getElem?_eq_some_iff.1 hv).1
  have hl : L[i]? = some (L[i]'(by have := h.len; have := h.vlen; omega)) := List.getElem?_eq_getElem _
  obtain ⟨Ai, ci, e, ho⟩ := h.rows i v _ hv hl
  exact ho.lt k hb
theorem OwnMx.below_marked {W : World} (hB : Below W.heap.size W w) (h : OwnMx w base A n c L vs) (hb : W.heap.size ≤ base) (hg : GrownS w w' (inRows vs)) : Below W.heap.size W w' :=
  hB.trans ⟨hg.os, hg.tape, hg.output, hg.size, fun k hk => by
    by_cases hlt : k < w.heap.size
    · exact hg.block k hlt (fun hs => by have := h.inRows_lt hs; omega)
    · have := hB.size; omega⟩
/-- Nothing that is apart in blocks from the rows is changed. -/
theorem OwnMx.keptS {base2 n2 c2 : Nat} {A2 : Option Addr} {L2 : List (List Int)} {vs2 : List Value} {S : Nat → Prop} (h : OwnMx w base2 A2 n2 c2 L2 vs2) (hg : GrownS w w' S)
    (ho : ∀ k, (Value.slice A2 n2 c2).ownBlock = some k → ¬ S k) (hr : ∀ k, inRows vs2 k → ¬ S k) : OwnMx w' base2 A2 n2 c2 L2 vs2 :=
  ⟨own_keptS h.row hg ho, h.len, fun i v l hv hl => by
    obtain ⟨Ai, ci, e, hw⟩ := h.rows i v l hv hl
    exact ⟨Ai, ci, e, own_keptS hw hg (fun k hk => hr k ⟨i, v, hv, hk⟩)⟩, h.apart⟩
/-- One row is written (and nothing else). -/
theorem OwnMx.row_written (h : OwnMx w base A n c L vs) (k : Nat) (v : Value) (hv : vs[k]? = some v) (l' : List Int) (hl' : ∀ l, L[k]? = some l → l'.length = l.length)
    (ho : w'.ownsRow base 3 1 v l'.length (intCells l')) (hg : w.grownBy w' v.ownBlock) : OwnMx w' base A n c (L.set k l') vs ∧ GrownS w w' (inRows vs) := by
  have hk : k < n := by have := (List.getElem?_eq_some_iff.1 hv).1; have := h.vlen; omega
  have hlk : L[k]? = some (L[k]'(by have := h.len; omega)) := List.getElem?_eq_getElem _
  obtain ⟨Ak, ck, ek, hok⟩ := h.rows k v _ hv hlk
  refine ⟨⟨h.row.kept hg (own_type h.row hok (by decide)), by simpa using h.len, fun i x l hx hl => ?_, h.apart⟩, GrownS.of_grown hg fun b hb => ⟨k, v, hv, hb⟩⟩
  by_cases hi : i = k
  · subst hi
    rw [hv] at hx
    injection hx with hx
    subst hx
    rw [List.getElem?_set_self (by have := h.len; omega)] at hl
    injection hl with hl
    subst hl
    refine ⟨Ak, ck, ?_, ho⟩
    rw [ek, hl' _ hlk]
  · rw [List.getElem?_set_ne (Ne.symm hi)] at hl
    obtain ⟨Ai, ci, e, hw⟩ := h.rows i x l hx hl
    exact ⟨Ai, ci, e, hw.kept hg (h.apart i k x v hi hx hv)⟩
/-- The outer row gets another value at k. -/
theorem OwnMx.put {g : Nat} (h : OwnMx w base (some ⟨g, 0, none⟩) n c L vs) (k : Nat) (hk : k < n) (v : Value) (l : List Int) (Ai : Option Addr) (ci : Nat) (he : v = .slice Ai l.length ci) (ho : w.ownsRow base 3 1 v l.length (intCells l))
    (hf : ∀ (i : Nat) (x : Value), vs[i]? = some x → (x.ownBlock = none ∨ x.ownBlock ≠ v.ownBlock) ∧ (v.ownBlock = none ∨ v.ownBlock ≠ x.ownBlock)) :
    OwnMx (w.setCell ⟨g, k, none⟩ v) base (some ⟨g, 0, none⟩) n c (L.set k l) (vs.set k v) ∧ w.grownBy (w.setCell ⟨g, k, none⟩ v) (some g) := by
  have hs := h.row.stored k v
  refine ⟨⟨hs.1, by simpa using h.len, fun i x l' hx hl => ?_, fun i j x y hij hx hy => ?_⟩, hs.2⟩
  · by_cases hi : i = k
    · subst hi
      rw [List.getElem?_set_self (by have := h.vlen; omega)] at hx
      rw [List.getElem?_set_self (by have := h.len; omega)] at hl
      injection hx with hx
      injection hl with hl
      subst hx hl
      exact ⟨Ai, ci, he, ho.kept hs.2 (own_type ho h.row (by decide))⟩
    · rw [List.getElem?_set_ne (Ne.symm hi)] at hx hl
      obtain ⟨Aj, cj, e, hw⟩ := h.rows i x l' hx hl
      exact ⟨Aj, cj, e, hw.kept hs.2 (own_type hw h.row (by decide))⟩
  · by_cases hi : i = k
    · subst hi
      rw [List.getElem?_set_self (by have := h.vlen; omega)] at hx
      rw [List.getElem?_set_ne hij] at hy
      injection hx with hx
      subst hx
      exact (hf j y hy).2
    · rw [List.getElem?_set_ne (Ne.symm hi)] at hx
      by_cases hj : j = k
      · subst hj
        rw [List.getElem?_set_self (by have := h.vlen; omega)] at hy
        injection hy with hy
        subst hy
        exact (hf i x hx).1
      · rw [List.getElem?_set_ne (Ne.symm hj)] at hy
        exact h.apart i j x y hij hx hy
/-- A value that was made later lies apart. -/
theorem OwnMx.fresh {w0 : World} (h : OwnMx w0 base A n c L vs) {b m : Nat} {v : Value} {xs : List Value} (ho : w.ownsRow b 3 1 v m xs) (hb : w0.heap.size ≤ b) :
    ∀ (i : Nat) (x : Value), vs[i]? = some x → (x.ownBlock = none ∨ x.ownBlock ≠ v.ownBlock) ∧ (v.ownBlock = none ∨ v.ownBlock ≠ x.ownBlock) := by
  intro i x hx
  have hi := (List.getElem?_eq_some_iff.1 hx).1
  have hl : L[i]? = some (L[i]'(by have := h.len; have := h.vlen; omega)) := List.getElem?_eq_getElem _
  obtain ⟨Ai, ci, e, hw⟩ := h.rows i x _ hx hl
  exact ⟨own_apart hw ho hb, own_apart' hw ho hb⟩
/-- The outer row has got one value more at its end. -/
theorem OwnMx.push {c' : Nat} {A' : Option Addr} (h : OwnMx w base A n c L vs) (v : Value) (l : List Int) (Ai : Option Addr) (ci : Nat) (he : v = .slice Ai l.length ci) (ho : w.ownsRow base 3 1 v l.length (intCells l))
    (hf : ∀ (i : Nat) (x : Value), vs[i]? = some x → (x.ownBlock = none ∨ x.ownBlock ≠ v.ownBlock) ∧ (v.ownBlock = none ∨ v.ownBlock ≠ x.ownBlock))
    (hr : w'.ownsRow base 22 1 (.slice A' (n + 1) c') (n + 1) (vs ++ [v])) (hg : w.grownBy w' (Value.slice A n c).ownBlock) : OwnMx w' base A' (n + 1) c' (L ++ [l]) (vs ++ [v]) := by
  have hvl := h.vlen
  have hll := h.len
  refine ⟨hr, by simp [h.len], fun i x l' hx hl => ?_, fun i j x y hij hx hy => ?_⟩
  · by_cases hi : i < n
    · rw [List.getElem?_append_left (by omega)] at hx hl
      obtain ⟨Aj, cj, e, hw⟩ := h.rows i x l' hx hl
      exact ⟨Aj, cj, e, hw.kept hg (own_type hw h.row (by decide))⟩
    · have hlt := (List.getElem?_eq_some_iff.1 hx).1
      simp only [List.length_append, List.length_cons, List.length_nil] at hlt
      obtain rfl : i = n := by omega
      rw [List.getElem?_append_right (by omega), hvl, Nat.sub_self] at hx
      rw [List.getElem?_append_right (by omega), hll, Nat.sub_self] at hl
      simp only [List.getElem?_cons_zero, Option.some.injEq] at hx hl
      subst hx hl
      exact ⟨Ai, ci, he, ho.kept hg (own_type ho h.row (by decide))⟩
  · have key : ∀ (i : Nat) (x : Value), (vs ++ [v])[i]? = some x → (i < n ∧ vs[i]? = some x) ∨ (i = n ∧ x = v) := by
      intro i x hx
      by_cases hi : i < n
      · rw [List.getElem?_append_left (by omega)] at hx
        exact .inl ⟨hi, hx⟩
      · have hlt := (List.getElem?_eq_some_iff.1 hx).1
        simp only [List.length_append, List.length_cons, List.length_nil] at hlt
        obtain rfl : i = n := by omega
        rw [List.getElem?_append_right (by omega), hvl, Nat.sub_self] at hx
        simp only [List.getElem?_cons_zero, Option.some.injEq] at hx
        exact .inr ⟨rfl, hx.symm⟩
    rcases key i x hx with ⟨hi, hx'⟩ | ⟨hi, rfl⟩ <;> rcases key j y hy with ⟨hj, hy'⟩ | ⟨hj, rfl⟩
    · exact h.apart i j x y hij hx' hy'
    · exact (hf i x hx').1
    · exact (hf j y hy').2
    · omega
end
/-- A call that hands back new rows. -/
def MadeMx (w : World) (n : Nat) (L : List (List Int)) (en : Ending) (w' : World) : Prop :=
  ∃ A c vs, en = .returned (.slice A n c) ∧ OwnMx w' w.heap.size A n c L vs ∧ Below w.heap.size w w'
theorem OwnMx.nil_rows (w : World) (base n : Nat) (A : Option Addr) (c : Nat) (h : w.ownsRow base 22 1 (.slice A n c) n (List.replicate n (.slice none 0 0))) : OwnMx w base A n c (List.replicate n []) (List.replicate n (.slice none 0 0)) := by
  refine ⟨h, by simp, fun i v l hv hl => ?_, fun i j v v' _ hv _ => ?_⟩
  · rw [List.getElem?_replicate] at hv hl
    split at hv
    · rename_i hi
      rw [if_pos hi] at hl
      injection hv with hv
      injection hl with hl
      subst hv hl
      exact ⟨none, 0, rfl, World.ownsRow_nil _ _ _ _⟩
    · cases hv
  · rw [List.getElem?_replicate] at hv
    split at hv
    · injection hv with hv
      subst hv
      exact .inl rfl
    · cases hv
end Go.Proofs.Ytjgphiialfhdlaa
