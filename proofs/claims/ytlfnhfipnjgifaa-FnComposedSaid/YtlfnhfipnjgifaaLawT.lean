/- Plain laws of tables: composing, restricting, comparing. No program in sight. No condition. -/
import Derived.Test.YtlfnhfipnjgifaaPure
namespace Go.Proofs.Ytlfnhfipnjgifaa
open Go.RowKit
set_option linter.unusedVariables false
set_option linter.unusedSimpArgs false

theorem bothR_no {a b : Int} (h : ¬ (rOk a = true ∧ rOk b = true)) : bothR a b = 0 := by
  have : (rOk a && rOk b) = false := by simpa using h
  simp [bothR, this]
theorem bothR_ok (a b : Int) : rOk (bothR a b) = true := by
  by_cases h : rOk a = true ∧ rOk b = true
  · rcases rOk_cases h.1 with rfl | rfl | rfl | rfl <;> rcases rOk_cases h.2 with rfl | rfl | rfl | rfl <;> decide
  · rw [bothR_no h]; decide
theorem bothR_comm (a b : Int) : bothR a b = bothR b a := by
  by_cases h : rOk a = true ∧ rOk b = true
  · rcases rOk_cases h.1 with rfl | rfl | rfl | rfl <;> rcases rOk_cases h.2 with rfl | rfl | rfl | rfl <;> decide
  · rw [bothR_no h, bothR_no fun h' => h ⟨h'.2, h'.1⟩]
theorem bothR_assoc (a b c : Int) : bothR (bothR a b) c = bothR a (bothR b c) := by
  by_cases ha : rOk a = true <;> by_cases hb : rOk b = true <;> by_cases hc : rOk c = true
  · rcases rOk_cases ha with rfl | rfl | rfl | rfl <;> rcases rOk_cases hb with rfl | rfl | rfl | rfl <;> rcases rOk_cases hc with rfl | rfl | rfl | rfl <;> decide
  all_goals
    have e1 : bothR (bothR a b) c = 0 := by
      first
      | exact bothR_no fun h => hc h.2
      | (rw [bothR_no (a := a) (b := b) fun h => ha h.1]; rcases rOk_cases hc with rfl | rfl | rfl | rfl <;> decide)
      | (rw [bothR_no (a := a) (b := b) fun h => hb h.2]; rcases rOk_cases hc with rfl | rfl | rfl | rfl <;> decide)
    have e2 : bothR a (bothR b c) = 0 := by
      first
      | exact bothR_no fun h => ha h.1
      | (rw [bothR_no (a := b) (b := c) fun h => hb h.1]; rcases rOk_cases ha with rfl | rfl | rfl | rfl <;> decide)
      | (rw [bothR_no (a := b) (b := c) fun h => hc h.2]; rcases rOk_cases ha with rfl | rfl | rfl | rfl <;> decide)
    rw [e1, e2]
theorem bothR_zero (b : Int) : bothR 0 b = 0 := by
  by_cases hb : rOk b = true
  · rcases rOk_cases hb with rfl | rfl | rfl | rfl <;> decide
  · exact bothR_no fun h => hb h.2
theorem both_enough (a b : Int) (h : bothR a b ≠ 0) : enough a (bothR a b) = true ∧ enough b (bothR a b) = true := by
  by_cases hh : rOk a = true ∧ rOk b = true
  · rcases rOk_cases hh.1 with rfl | rfl | rfl | rfl <;> rcases rOk_cases hh.2 with rfl | rfl | rfl | rfl <;> decide
  · exact absurd (bothR_no hh) h
theorem enough_refl {a : Int} (h : rOk a = true) : enough a a = true := by
  rcases rOk_cases h with rfl | rfl | rfl | rfl <;> decide
theorem restrict_noSlot (q : Int) : restrictS noSlot q = noSlot := by simp [restrictS, noSlot, bothR_zero]
theorem compose_noSlot (o : List Sl) : composeSlot noSlot o = noSlot := by simp [composeSlot, noSlot]
theorem slotAt_map (o : List Sl) (f : Sl → Sl) (hf : f noSlot = noSlot) (p : Int) : slotAt (o.map f) p = f (slotAt o p) := by
  unfold slotAt
  rw [List.length_map]
  split
  · rename_i h
    obtain ⟨h1, h2⟩ : 0 ≤ p ∧ p < o.length := by simpa [hasB] using h
    obtain ⟨k, rfl⟩ := Int.eq_ofNat_of_zero_le h1
    have hk : k < o.length := by omega
    simp [List.getD_eq_getElem?_getD, List.getElem?_eq_getElem hk]
  · exact hf.symm
theorem restrict_eq (s : Sl) (q : Int) : restrictS s q = if bothR s.2 q = 0 then noSlot else (s.1, bothR s.2 q) := rfl
theorem compose_restrict (s : Sl) (o : List Sl) (q : Int) : composeSlot (restrictS s q) o = restrictS (composeSlot s o) q := by
  obtain ⟨p, r⟩ := s
  obtain ⟨t1, t2, ht⟩ : ∃ t1 t2, slotAt o p = (t1, t2) := ⟨_, _, rfl⟩
  have key : bothR (bothR r q) t2 = bothR (bothR r t2) q := by rw [bothR_assoc, bothR_comm q t2, ← bothR_assoc]
  rw [restrict_eq]
  by_cases h1 : bothR r q = 0
  · rw [if_pos h1, compose_noSlot]
    rw [h1, bothR_zero] at key
    unfold composeSlot
    rw [ht]
    split
    · rw [restrict_noSlot]
    · rw [restrict_eq, if_pos key.symm]
  · rw [if_neg h1]
    unfold composeSlot
    simp only [ht]
    by_cases h2 : p = -1
    · rw [if_pos (.inl h2), if_pos (.inl h2), restrict_noSlot]
    · by_cases h3 : t1 = -1
      · rw [if_pos (.inr (.inl h3)), if_pos (.inr (.inl h3)), restrict_noSlot]
      · by_cases h4 : bothR r t2 = 0
        · rw [if_pos (c := p = -1 ∨ t1 = -1 ∨ bothR r t2 = 0) (.inr (.inr h4)), restrict_noSlot, if_pos]
          refine .inr (.inr ?_)
          rw [key, h4, bothR_zero]
        · rw [if_neg (c := p = -1 ∨ t1 = -1 ∨ bothR r t2 = 0) (by simp [h2, h3, h4]), restrict_eq]
          simp only [key, h2, h3, false_or]
theorem compose_restrict_outer (s : Sl) (o : List Sl) (q : Int) : composeSlot s (o.map fun x => restrictS x q) = restrictS (composeSlot s o) q := by
  obtain ⟨p, r⟩ := s
  obtain ⟨t1, t2, ht⟩ : ∃ t1 t2, slotAt o p = (t1, t2) := ⟨_, _, rfl⟩
  have hm : slotAt (o.map fun x => restrictS x q) p = restrictS (t1, t2) q := by rw [slotAt_map o _ (restrict_noSlot q), ht]
  have key : bothR r (bothR t2 q) = bothR (bothR r t2) q := (bothR_assoc _ _ _).symm
  unfold composeSlot
  simp only [hm, ht, restrict_eq (t1, t2) q]
  by_cases h1 : bothR t2 q = 0
  · rw [h1] at key
    rw [bothR_comm r 0, bothR_zero] at key
    rw [if_pos h1, if_pos (.inr (.inl (by simp [noSlot])))]
    split
    · rw [restrict_noSlot]
    · rw [restrict_eq, if_pos key.symm]
  · rw [if_neg h1]
    simp only
    by_cases h2 : p = -1
    · rw [if_pos (.inl h2), if_pos (.inl h2), restrict_noSlot]
    · by_cases h3 : t1 = -1
      · rw [if_pos (.inr (.inl h3)), if_pos (.inr (.inl h3)), restrict_noSlot]
      · by_cases h4 : bothR r t2 = 0
        · rw [if_pos (c := p = -1 ∨ t1 = -1 ∨ bothR r t2 = 0) (.inr (.inr h4)), restrict_noSlot, if_pos]
          refine .inr (.inr ?_)
          rw [key, h4, bothR_zero]
        · rw [if_neg (c := p = -1 ∨ t1 = -1 ∨ bothR r t2 = 0) (by simp [h2, h3, h4]), restrict_eq]
          simp only [key, h2, h3, false_or]
theorem below_noSlot (s : Sl) : belowS noSlot s = true := by simp [belowS, noSlot, slEq]
theorem below_restrict (s : Sl) (q : Int) : belowS (restrictS s q) s = true := by
  rw [restrict_eq]
  by_cases h : bothR s.2 q = 0
  · rw [if_pos h]; exact below_noSlot s
  · rw [if_neg h]
    simp [belowS, (both_enough _ _ h).1]
theorem below_self_compose (s : Sl) (o : List Sl) : belowS (composeSlot s o) (composeSlot s o) = true := by
  unfold composeSlot
  split
  · exact below_noSlot _
  · simp [belowS, enough_refl (bothR_ok _ _)]
theorem tableBelow_map {α : Type} (l : List α) (f g : α → Sl) (h : ∀ x ∈ l, belowS (f x) (g x) = true) : tableBelow (l.map f) (l.map g) = true := by
  simp only [tableBelow, List.length_map, decide_true, Bool.true_and, List.zip_map', List.all_map, List.all_eq_true]
  exact fun x hx => h x hx
/-- The laws of FnMonotone. -/
theorem monotone (l o : List Sl) (q : Int) :
    tableBelow ((l.map fun s => restrictS s q).map fun s => composeSlot s o) (l.map fun s => composeSlot s o) = true ∧
    tableBelow (l.map fun s => composeSlot s (o.map fun s => restrictS s q)) (l.map fun s => composeSlot s o) = true ∧
    ((l.map fun s => restrictS s q).map fun s => composeSlot s o) = (l.map fun s => composeSlot s (o.map fun s => restrictS s q)) ∧
    tableBelow (l.map fun s => composeSlot s o) (l.map fun s => composeSlot s o) = true := by
  have e1 : ((l.map fun s => restrictS s q).map fun s => composeSlot s o) = l.map fun s => restrictS (composeSlot s o) q := by
    rw [List.map_map]; exact List.map_congr_left fun s _ => compose_restrict s o q
  have e2 : (l.map fun s => composeSlot s (o.map fun s => restrictS s q)) = l.map fun s => restrictS (composeSlot s o) q :=
    List.map_congr_left fun s _ => compose_restrict_outer s o q
  have hb := tableBelow_map l (fun s => restrictS (composeSlot s o) q) (fun s => composeSlot s o) fun s _ => below_restrict _ _
  exact ⟨by rw [e1]; exact hb, by rw [e2]; exact hb, e1.trans e2.symm, tableBelow_map l _ _ fun s _ => below_self_compose s o⟩
theorem enough_both {a b n : Int} (hn : n = 1 ∨ n = 2) : (enough (bothR a b) n = true) ↔ (enough a n = true ∧ enough b n = true) := by
  by_cases h : rOk a = true ∧ rOk b = true
  · rcases rOk_cases h.1 with rfl | rfl | rfl | rfl <;> rcases rOk_cases h.2 with rfl | rfl | rfl | rfl <;> rcases hn with rfl | rfl <;> decide
  · rw [bothR_no h]
    constructor
    · intro h'; rcases hn with rfl | rfl <;> exact absurd h' (by decide)
    · rintro ⟨h1, h2⟩
      refine absurd ⟨?_, ?_⟩ h
      · simp only [enough, Bool.and_eq_true] at h1; exact h1.1
      · simp only [enough, Bool.and_eq_true] at h2; exact h2.1
theorem both_zero_enough {a b n : Int} (hn : n = 1 ∨ n = 2) (h : bothR a b = 0) : ¬ (enough a n = true ∧ enough b n = true) := by
  rw [← enough_both hn, h]
  rcases hn with rfl | rfl <;> decide
/-- The laws of FnWalks: whether the walk ends well, where it leads, and what it leads to else. -/
theorem walks_law (l o : List Sl) (page need p k : Int) (h : walkS l o page need = (p, k)) :
    (k = 0 ∨ p = -1) ∧ (need = 1 ∨ need = 2 →
      (k = 0 ↔ ((slotAt (l.map fun s => composeSlot s o) page).1 ≠ -1 ∧ enough (slotAt (l.map fun s => composeSlot s o) page).2 need = true)) ∧
      (k = 0 → p = (slotAt (l.map fun s => composeSlot s o) page).1)) := by
  rw [slotAt_map l _ (compose_noSlot o)]
  obtain ⟨s1, s2, hs⟩ : ∃ s1 s2, slotAt l page = (s1, s2) := ⟨_, _, rfl⟩
  rw [hs]
  unfold walkS walkInner at h
  simp only [hs] at h
  obtain ⟨t1, t2, ht⟩ : ∃ t1 t2, slotAt o s1 = (t1, t2) := ⟨_, _, rfl⟩
  by_cases h1 : s1 = -1 ∨ enough s2 need = false ∨ needOk need = false
  · rw [if_pos h1] at h
    simp only [if_true, Prod.mk.injEq] at h
    obtain ⟨rfl, rfl⟩ := h
    refine ⟨.inr rfl, fun hn => ⟨⟨fun h => absurd h (by decide), fun hc => ?_⟩, fun h => absurd h (by decide)⟩⟩
    exfalso
    unfold composeSlot at hc
    simp only [ht] at hc
    split at hc
    · exact hc.1 rfl
    · rename_i hne
      simp only [not_or] at hne
      rw [enough_both hn] at hc
      rcases h1 with h1 | h1 | h1
      · exact hne.1 h1
      · rw [h1] at hc; exact absurd hc.2.1 (by decide)
      · rcases hn with rfl | rfl <;> revert h1 <;> decide
  · rw [if_neg h1] at h
    simp only [not_or, Bool.not_eq_false] at h1
    simp only [Bool.true_eq_false, if_false, ht] at h
    by_cases h2 : t1 = -1 ∨ enough t2 need = false
    · rw [if_pos h2] at h
      simp only [Prod.mk.injEq] at h
      obtain ⟨rfl, rfl⟩ := h
      refine ⟨.inr rfl, fun hn => ⟨⟨fun h => absurd h (by decide), fun hc => ?_⟩, fun h => absurd h (by decide)⟩⟩
      exfalso
      unfold composeSlot at hc
      simp only [ht] at hc
      split at hc
      · exact hc.1 rfl
      · rename_i hne
        simp only [not_or] at hne
        rw [enough_both hn] at hc
        rcases h2 with h2 | h2
        · exact hne.2.1 h2
        · rw [h2] at hc; exact absurd hc.2.2 (by decide)
    · rw [if_neg h2] at h
      simp only [Prod.mk.injEq] at h
      obtain ⟨rfl, rfl⟩ := h
      simp only [not_or, Bool.not_eq_false] at h2
      refine ⟨.inl rfl, fun hn => ?_⟩
      have hb : bothR s2 t2 ≠ 0 := fun hz => both_zero_enough hn hz ⟨h1.2.1, h2.2⟩
      have hc : composeSlot (s1, s2) o = (t1, bothR s2 t2) := by
        unfold composeSlot
        simp only [ht]
        rw [if_neg]
        simp only [not_or]
        exact ⟨h1.1, h2.1, hb⟩
      rw [hc]
      exact ⟨⟨fun _ => ⟨h2.1, (enough_both hn).2 ⟨h1.2.1, h2.2⟩⟩, fun _ => rfl⟩, fun _ => rfl⟩
/-! ### The laws of FnThrough and FnPutTwice -/
def idTable (k : Nat) : List Sl := (List.range k).map fun (i : Nat) => ((i : Int), (3 : Int))
theorem idTable_succ (k : Nat) : idTable (k + 1) = idTable k ++ [((k : Int), 3)] := by simp [idTable, List.range_succ]
def SmallSlots (l : List Sl) : Prop := ∀ s ∈ l, (0 ≤ s.1 ∧ s.1 ≤ 7) ∧ (1 ≤ s.2 ∧ s.2 ≤ 3)
theorem slotAt_id (p : Int) (h0 : 0 ≤ p) (h1 : p ≤ 7) : slotAt (idTable 8) p = (p, 3) := by
  have : p = 0 ∨ p = 1 ∨ p = 2 ∨ p = 3 ∨ p = 4 ∨ p = 5 ∨ p = 6 ∨ p = 7 := by omega
  rcases this with rfl | rfl | rfl | rfl | rfl | rfl | rfl | rfl <;> decide
theorem slotAt_none (n : Nat) (p : Int) : slotAt (List.replicate n noSlot) p = noSlot := by
  unfold slotAt
  split
  · rename_i h
    simp only [List.length_replicate] at h
    obtain ⟨h1, h2⟩ : 0 ≤ p ∧ p < n := by simpa [hasB] using h
    simp [List.getD_eq_getElem?_getD, List.getElem?_replicate, show p.toNat < n by omega]
  · rfl
theorem mapped_noSlot (l : List Sl) : mapped (l.map fun _ => noSlot) = 0 := by
  simp [mapped, noSlot]
  intros
  omega
theorem through_law (l : List Sl) (h : SmallSlots l) : (l.map fun s => composeSlot s (idTable 8)) = l ∧ mapped (l.map fun s => composeSlot s (List.replicate 8 noSlot)) = 0 ∧ mapped (l.map fun s => restrictS s 0) = 0 := by
  refine ⟨?_, ?_, ?_⟩
  · conv => rhs; rw [← List.map_id l]
    refine List.map_congr_left fun s hs => ?_
    obtain ⟨⟨h0, h1⟩, h2, h3⟩ := h s hs
    obtain ⟨p, r⟩ := s
    simp only at h0 h1 h2 h3
    unfold composeSlot
    simp only [slotAt_id p h0 h1, id]
    have hr : bothR r 3 = r := by
      have : r = 1 ∨ r = 2 ∨ r = 3 := by omega
      rcases this with rfl | rfl | rfl <;> decide
    rw [hr, if_neg (by omega)]
  · have : (l.map fun s => composeSlot s (List.replicate 8 noSlot)) = l.map fun _ => noSlot := List.map_congr_left fun s _ => by
      unfold composeSlot
      rw [slotAt_none, if_pos (.inr (.inl rfl))]
    rw [this, mapped_noSlot]
  · have : (l.map fun s => restrictS s 0) = l.map fun _ => noSlot := List.map_congr_left fun s _ => by
      rw [restrict_eq, bothR_comm, bothR_zero, if_pos rfl]
    rw [this, mapped_noSlot]
theorem put_law (i k : Nat) (hi : i < 4) (hk : k < 4) (a b : Sl) (ha : (0 ≤ a.1 ∧ a.1 ≤ 7) ∧ (1 ≤ a.2 ∧ a.2 ≤ 3)) (hb : (0 ≤ b.1 ∧ b.1 ≤ 7) ∧ (1 ≤ b.2 ∧ b.2 ≤ 3)) :
    (i ≠ k → withSlot (withSlot (List.replicate 4 noSlot) i a) k b = withSlot (withSlot (List.replicate 4 noSlot) k b) i a) ∧
    mapped (withSlot (withSlot (List.replicate 4 noSlot) i a) k b) = (if i = k then 1 else 2) ∧
    withSlot (withSlot (withSlot (List.replicate 4 noSlot) i a) k b) k b = withSlot (withSlot (List.replicate 4 noSlot) i a) k b ∧
    tableOk (withSlot (withSlot (List.replicate 4 noSlot) i a) k b) 4 8 = true := by
  have hw : ∀ (t : List Sl) (j : Nat) (s : Sl), t.length = 4 → j < 4 → withSlot t (j : Int) s = t.set j s := fun t j s ht hj => by
    unfold withSlot
    rw [if_pos (by simp [hasB, ht]; omega)]
    simp
  have h0 : (List.replicate 4 noSlot).length = 4 := rfl
  have hs : ∀ (t : List Sl) (j : Nat) (s : Sl), t.length = 4 → (t.set j s).length = 4 := fun t j s ht => by simp [ht]
  rw [hw _ i a h0 hi, hw _ k b (hs _ _ _ h0) hk, hw _ k b h0 hk, hw _ i a (hs _ _ _ h0) hi, hw _ k b (hs _ _ _ (hs _ _ _ h0)) hk]
  have oka : slotOk a 8 = true := by obtain ⟨p, r⟩ := a; simp [slotOk, inB] at *; omega
  have okb : slotOk b 8 = true := by obtain ⟨p, r⟩ := b; simp [slotOk, inB] at *; omega
  have okn : slotOk noSlot 8 = true := by decide
  have na : (a.1 != -1) = true := by simp; omega
  have nb : (b.1 != -1) = true := by simp; omega
  have nn : (noSlot.1 != -1) = false := by decide
  have ci : i = 0 ∨ i = 1 ∨ i = 2 ∨ i = 3 := by omega
  have ck : k = 0 ∨ k = 1 ∨ k = 2 ∨ k = 3 := by omega
  rcases ci with rfl | rfl | rfl | rfl <;> rcases ck with rfl | rfl | rfl | rfl <;> simp [List.replicate, mapped, tableOk, oka, okb, okn, na, nb, nn]
/-! ### The law of FnSlots -/
theorem slotAt_with (l : List Sl) (page : Int) (s t : Sl) (k : Nat) (hk : l[k]? = some t) : slotAt (withSlot l page s) (k : Int) = if (k : Int) = page then s else t := by
  have hlt : k < l.length := (List.getElem?_eq_some_iff.1 hk).1
  have ht : l[k] = t := (List.getElem?_eq_some_iff.1 hk).2
  unfold withSlot
  by_cases hp : (k : Int) = page
  · subst hp
    rw [if_pos rfl, if_pos (by simp [hasB]; omega)]
    simp [slotAt, hasB, hlt]
  · rw [if_neg hp]
    split
    · rename_i h
      obtain ⟨h1, h2⟩ : 0 ≤ page ∧ page < l.length := by simpa [hasB] using h
      obtain ⟨j, rfl⟩ := Int.eq_ofNat_of_zero_le h1
      have hne : j ≠ k := fun e => hp (by rw [e])
      simp [slotAt, hasB, hlt, hne, List.getElem?_set_ne, ht]
    · simp [slotAt, hasB, hlt, ht]
end Go.Proofs.Ytlfnhfipnjgifaa
