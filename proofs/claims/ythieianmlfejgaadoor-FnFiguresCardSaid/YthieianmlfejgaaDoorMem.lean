/- Rows of cells in memory: what a slice reads, what the call itself has made. Plain lemmas over any world. No condition. -/
import Derived.Test.YthieianmlfejgaaDoorPure
import Derived.Below
import Derived.Laws.OwnMore
import Derived.Deep.AppendLies
import Derived.Deep.Draws
import Derived.Laws.Rows
import Derived.WalkKit
namespace Go.Proofs.YthieianmlfejgaaDoor
open Go.RowKit
set_option linter.unusedVariables false

/-- The slice value '.slice A n _' reads as the cells xs, 'size' cells an element. -/
def Rd (w : World) (size : Nat) (A : Option Addr) (n : Nat) (xs : List Value) : Prop :=
  xs.length = n * size ∧ (0 < n → ∃ b o, A = some ⟨b, o, none⟩ ∧ ∀ j u, xs[j]? = some u → w.cell? ⟨b, o + j, none⟩ = some u)

theorem Rd.len {w : World} {size n : Nat} {A : Option Addr} {xs : List Value} (h : Rd w size A n xs) : xs.length = n * size := h.1

theorem Rd.keep {w w' : World} {size n : Nat} {A : Option Addr} {xs : List Value} (h : Rd w size A n xs) (hk : ∀ p v, w.cell? p = some v → w'.cell? p = some v) : Rd w' size A n xs :=
  ⟨h.1, fun hn => by
    obtain ⟨b, o, e, hc⟩ := h.2 hn
    exact ⟨b, o, e, fun j u hu => hk _ _ (hc j u hu)⟩⟩
theorem below_keep {w w' : World} (hb : Below w.heap.size w w') (p : Addr) (v : Value) (h : w.cell? p = some v) : w'.cell? p = some v :=
  (hb.cell (World.block_lt_of_cell? w p h)).trans h
theorem Rd.below {w w' : World} {size n : Nat} {A : Option Addr} {xs : List Value} (h : Rd w size A n xs) (hb : Below w.heap.size w w') : Rd w' size A n xs := h.keep (below_keep hb)
theorem frz_alloc (w : World) (o : Obj) {p : Addr} (h : p.block < w.heap.size) : (w.alloc o).frozen? p = w.frozen? p := ((Below.refl w.heap.size w).alloc (Nat.le_refl _) o).frozen h
theorem cel_alloc (w : World) (o : Obj) {p : Addr} (h : p.block < w.heap.size) : (w.alloc o).cell? p = w.cell? p := ((Below.refl w.heap.size w).alloc (Nat.le_refl _) o).cell h
theorem qb {P : Program} {f : FuncId} {args : Array Value} {w : World} {r : Ending} (h : Calls P f args w fun e w' => e = r ∧ w = w') : Calls P f args w fun e w' => e = r ∧ Below w.heap.size w w' :=
  h.mono fun _ _ ⟨a, b⟩ => ⟨a, b ▸ Below.refl _ _⟩
theorem Rd.nil (w : World) (size : Nat) (A : Option Addr) : Rd w size A 0 [] := ⟨by simp, fun h => absurd h (by omega)⟩

/-- What the call made it may read. -/
theorem Rd.of_own {w : World} {base size n : Nat} {e : TypeId} {A : Option Addr} {c : Nat} {xs : List Value} (h : w.ownsRow base e size (.slice A n c) n xs) : Rd w size A n xs := by
  refine ⟨h.1, fun hn => ?_⟩
  obtain ⟨g, cap, hv, _, hlt⟩ := h.form hn
  have hA : A = some ⟨g, 0, none⟩ := by injection hv
  subst hA
  refine ⟨g, 0, rfl, fun j u hu => ?_⟩
  have := h.cells (g := g) rfl j u hu
  by_cases hj : j = 0
  · subst hj
    simpa [Addr.add] using this
  · simpa [Addr.add, hj] using this
theorem own_shape {w : World} {base size n : Nat} {e : TypeId} {v : Value} {xs : List Value} (h : w.ownsRow base e size v n xs) : ∃ A c, v = .slice A n c := by
  rcases h.2 with ⟨rfl, rfl⟩ | ⟨g, cap, cur, rfl, _⟩
  · exact ⟨none, 0, rfl⟩
  · exact ⟨_, _, rfl⟩

/-- A call that hands back a new row. -/
def Made (w : World) (e : TypeId) (size n : Nat) (xs : List Value) (en : Ending) (w' : World) : Prop :=
  ∃ A c, en = .returned (.slice A n c) ∧ w'.ownsRow w.heap.size e size (.slice A n c) n xs ∧ Below w.heap.size w w'
theorem Made.mk {w w' : World} {e : TypeId} {size n : Nat} {xs : List Value} {en : Ending} {v : Value} (h1 : en = .returned v) (h2 : w'.ownsRow w.heap.size e size v n xs) (h3 : Below w.heap.size w w') : Made w e size n xs en w' := by
  obtain ⟨A, c, rfl⟩ := own_shape h2
  exact ⟨A, c, h1, h2, h3⟩

theorem own_kept {w w' : World} {base size n : Nat} {e : TypeId} {v : Value} {xs : List Value} (h : w.ownsRow base e size v n xs) (hb : Below w.heap.size w w') : w'.ownsRow base e size v n xs :=
  h.kept (row := none) ⟨hb.os, hb.tape, hb.output, hb.size, fun k hk _ => hb.block k hk⟩ (by
    rcases hv : v.ownBlock with _ | k
    · exact .inl rfl
    · exact .inr (by simp))
theorem own_base {w : World} {b1 b2 size n : Nat} {e : TypeId} {v : Value} {xs : List Value} (h : w.ownsRow b1 e size v n xs) (hle : b2 ≤ b1) : w.ownsRow b2 e size v n xs := by
  refine ⟨h.1, ?_⟩
  rcases h.2 with h' | ⟨g, cap, cur, a, b, r⟩
  · exact .inl h'
  · exact .inr ⟨g, cap, cur, a, Nat.le_trans hle b, r⟩
theorem own_apart {w1 w2 : World} {b1 b2 s1 s2 n1 n2 : Nat} {e1 e2 : TypeId} {v1 v2 : Value} {x1 x2 : List Value} (h1 : w1.ownsRow b1 e1 s1 v1 n1 x1) (h2 : w2.ownsRow b2 e2 s2 v2 n2 x2) (hle : w1.heap.size ≤ b2) :
    v1.ownBlock = none ∨ v1.ownBlock ≠ v2.ownBlock := by
  rcases hv : v1.ownBlock with _ | k
  · exact .inl rfl
  · refine .inr fun he => ?_
    have a := h1.lt k hv
    have b := h2.lt k he.symm
    omega
theorem own_apart' {w1 w2 : World} {b1 b2 s1 s2 n1 n2 : Nat} {e1 e2 : TypeId} {v1 v2 : Value} {x1 x2 : List Value} (h1 : w1.ownsRow b1 e1 s1 v1 n1 x1) (h2 : w2.ownsRow b2 e2 s2 v2 n2 x2) (hle : w1.heap.size ≤ b2) :
    v2.ownBlock = none ∨ v2.ownBlock ≠ v1.ownBlock := by
  rcases hv : v2.ownBlock with _ | k
  · exact .inl rfl
  · refine .inr fun he => ?_
    have a := h2.lt k hv
    have b := h1.lt k he.symm
    omega
theorem below_marked {W w w' : World} {base size n : Nat} {e : TypeId} {v : Value} {xs : List Value} (hB : Below W.heap.size W w) (h : w.ownsRow base e size v n xs) (hb : W.heap.size ≤ base) (hg : w.grownBy w' v.ownBlock) : Below W.heap.size W w' :=
  hB.grown hg hB.size fun k hk => by have := h.lt k hk; omega
theorem Rd.marked {W w w' : World} {size n base s2 n2 : Nat} {e2 : TypeId} {A : Option Addr} {xs x2 : List Value} {v2 : Value} (h : Rd W size A n xs) (hB : Below W.heap.size W w) (ho : w.ownsRow base e2 s2 v2 n2 x2) (hb : W.heap.size ≤ base) (hg : w.grownBy w' v2.ownBlock) : Rd w' size A n xs :=
  h.below (below_marked hB ho hb hg)

theorem grown_trans {a b c : World} {row : Option Nat} (h : a.grownBy b row) (k : b.grownBy c row) : a.grownBy c row :=
  ⟨k.os.trans h.os, k.tape.trans h.tape, k.output.trans h.output, Nat.le_trans h.size k.size, fun i hi hne => (k.block i (Nat.lt_of_lt_of_le hi h.size) hne).trans (h.block i hi hne)⟩
theorem own_at {w : World} {base size n c : Nat} {e : TypeId} {A : Option Addr} {xs : List Value} (h : w.ownsRow base e size (.slice A n c) n xs) (hn : 0 < n) : ∃ g, A = some ⟨g, 0, none⟩ := by
  obtain ⟨g, cap, hv, _, _⟩ := h.form hn
  injection hv with hA _ hc
  exact ⟨g, hA⟩

/-! ### Slots in cells -/
def slotCells : List Sl → List Value
  | [] => []
  | s :: r => .int .i64 s.1 :: .int .i64 s.2 :: slotCells r
theorem slotCells_length (l : List Sl) : (slotCells l).length = l.length * 2 := by
  induction l with
  | nil => rfl
  | cons s r ih => simp [slotCells, ih]; omega
theorem slotCells_append (l r : List Sl) : slotCells (l ++ r) = slotCells l ++ slotCells r := by
  induction l with
  | nil => rfl
  | cons s l ih => simp [slotCells, ih]
theorem slotCells_at (l : List Sl) (k : Nat) (h : k < l.length) : (slotCells l)[k * 2]? = some (.int .i64 l[k].1) ∧ (slotCells l)[k * 2 + 1]? = some (.int .i64 l[k].2) := by
  induction l generalizing k with
  | nil => simp at h
  | cons s r ih =>
    cases k with
    | zero => simp [slotCells]
    | succ k =>
      have := ih k (by simpa using h)
      have e : (k + 1) * 2 = k * 2 + 1 + 1 := by omega
      rw [e]
      simpa [slotCells] using this
theorem slotCells_inj {l r : List Sl} (h : slotCells l = slotCells r) : l = r := by
  induction l generalizing r with
  | nil => cases r with
    | nil => rfl
    | cons s r => simp [slotCells] at h
  | cons s l ih => cases r with
    | nil => simp [slotCells] at h
    | cons t r =>
      simp only [slotCells, List.cons.injEq, Value.int.injEq, true_and] at h
      rw [ih h.2.2, Prod.ext h.1 h.2.1]
theorem slotCells_set (l : List Sl) (k : Nat) (s : Sl) (h : k < l.length) : ((slotCells l).set (k * 2) (.int .i64 s.1)).set (k * 2 + 1) (.int .i64 s.2) = slotCells (l.set k s) := by
  induction l generalizing k with
  | nil => simp at h
  | cons t r ih =>
    cases k with
    | zero => simp [slotCells]
    | succ k =>
      have := ih k (by simpa using h)
      have e : (k + 1) * 2 = k * 2 + 1 + 1 := by omega
      rw [e]
      simp [slotCells, this]
theorem slots_len {w : World} {A : Option Addr} {n : Nat} {l : List Sl} (h : Rd w 2 A n (slotCells l)) : l.length = n := by
  have := h.len
  rw [slotCells_length] at this
  omega
/-- The cells of slot k. -/
theorem Rd.slot {w : World} {A : Option Addr} {n : Nat} {l : List Sl} (h : Rd w 2 A n (slotCells l)) (k : Nat) (hk : k < n) :
    ∃ b o p r, A = some ⟨b, o, none⟩ ∧ l[k]? = some (p, r) ∧ w.cell? ⟨b, o + k * 2, none⟩ = some (.int .i64 p) ∧ w.cell? ⟨b, o + k * 2 + 1, none⟩ = some (.int .i64 r) := by
  obtain ⟨b, o, e, hc⟩ := h.2 (by omega)
  have hl := slots_len h
  have := slotCells_at l k (by omega)
  exact ⟨b, o, l[k].1, l[k].2, e, by rw [List.getElem?_eq_getElem (by omega)], hc _ _ this.1, hc _ _ this.2⟩
theorem slotCells_zero (n : Nat) : (madeCells #[.int .i64 0, .int .i64 0] (n * 2)).toList = slotCells (List.replicate n (0, 0)) := by
  apply List.ext_getElem?
  intro j
  by_cases hj : j < n * 2
  · have h := slotCells_at (List.replicate n ((0, 0) : Sl)) (j / 2) (by simp; omega)
    simp only [List.getElem_replicate] at h
    rcases Nat.mod_two_eq_zero_or_one j with e | e
    · have e2 : j / 2 * 2 = j := by omega
      rw [e2] at h
      rw [h.1]
      simp [madeCells, hj, e]
    · have e2 : j / 2 * 2 + 1 = j := by omega
      rw [e2] at h
      rw [h.2]
      simp [madeCells, hj, e]
  · rw [List.getElem?_eq_none (by simp [madeCells]; omega), List.getElem?_eq_none (by simp [slotCells_length]; omega)]
/-- Two stores: slot k of an owned row. -/
theorem own_slot_set {w : World} {base n cap g : Nat} {e : TypeId} {l : List Sl} (h : w.ownsRow base e 2 (.slice (some ⟨g, 0, none⟩) n cap) n (slotCells l)) (k : Nat) (hk : k < n) (p q : Int) :
    ((w.setCell ⟨g, k * 2, none⟩ (.int .i64 p)).setCell ⟨g, k * 2 + 1, none⟩ (.int .i64 q)).ownsRow base e 2 (.slice (some ⟨g, 0, none⟩) n cap) n (slotCells (l.set k (p, q))) ∧
      w.grownBy ((w.setCell ⟨g, k * 2, none⟩ (.int .i64 p)).setCell ⟨g, k * 2 + 1, none⟩ (.int .i64 q)) (some g) := by
  have hl : l.length = n := by have := h.1; rw [slotCells_length] at this; omega
  have a := h.stored (k * 2) (.int .i64 p)
  have b := a.1.stored (k * 2 + 1) (.int .i64 q)
  rw [slotCells_set l k (p, q) (by omega)] at b
  exact ⟨b.1, ⟨b.2.os.trans a.2.os, b.2.tape.trans a.2.tape, b.2.output.trans a.2.output, Nat.le_trans a.2.size b.2.size, fun i hi hne => (b.2.block i (Nat.lt_of_lt_of_le hi a.2.size) hne).trans (a.2.block i hi hne)⟩⟩
/-- The two cells of slot k of an owned row are there and may be written. -/
theorem own_slot_at {w : World} {base n cap g : Nat} {e : TypeId} {l : List Sl} (h : w.ownsRow base e 2 (.slice (some ⟨g, 0, none⟩) n cap) n (slotCells l)) (k : Nat) (hk : k < n) :
    ∃ p q, l[k]? = some (p, q) ∧ w.cell? ⟨g, k * 2, none⟩ = some (.int .i64 p) ∧ w.cell? ⟨g, k * 2 + 1, none⟩ = some (.int .i64 q) ∧ w.frozen? ⟨g, k * 2, none⟩ = false ∧ w.frozen? ⟨g, k * 2 + 1, none⟩ = false := by
  have hl : l.length = n := by have := h.1; rw [slotCells_length] at this; omega
  have a := slotCells_at l k (by omega)
  exact ⟨l[k].1, l[k].2, by rw [List.getElem?_eq_getElem (by omega)], (h.cellAt _ (by omega)).trans a.1, (h.cellAt _ (by omega)).trans a.2, h.frozenAt _, h.frozenAt _⟩
theorem set_fill (l : List Sl) (n k : Nat) (s : Sl) (hl : l[k]? = some s) (hk : k < n) :
    (l.take k ++ List.replicate (n - k) ((0, 0) : Sl)).set k s = l.take (k + 1) ++ List.replicate (n - (k + 1)) (0, 0) := by
  have hlt : k < l.length := by
    rcases Nat.lt_or_ge k l.length with h | h
    · exact h
    · rw [List.getElem?_eq_none h] at hl; cases hl
  have e : n - k = (n - (k + 1)) + 1 := by omega
  rw [e, List.replicate_succ, List.set_append_right _ _ (by simp; omega), List.take_add_one, hl]
  simp [Nat.min_eq_left (Nat.le_of_lt hlt)]
/-- Slots that are numbered on from k. -/
def marksSl (k : Int) : Nat → List Sl
  | 0 => []
  | n + 1 => (k, k + 1) :: marksSl (k + 2) n
theorem marks_fill (l : List Sl) (n k : Nat) (m : Int) (hl : l.length = n) (hk : k < n) :
    (marksSl m k ++ l.drop k).set k (m + 2 * k, m + 2 * k + 1) = marksSl m (k + 1) ++ l.drop (k + 1) := by
  have hm : ∀ (m : Int) (k : Nat), marksSl m (k + 1) = marksSl m k ++ [(m + 2 * k, m + 2 * k + 1)] := by
    intro m k
    induction k generalizing m with
    | zero => simp [marksSl]
    | succ k ih =>
      rw [marksSl, ih (m + 2)]
      simp only [marksSl, List.cons_append]
      congr 4 <;> (push_cast; omega)
  have hlen : ∀ (m : Int) (k : Nat), (marksSl m k).length = k := by
    intro m k
    induction k generalizing m with
    | zero => rfl
    | succ k ih => simp [marksSl, ih]
  rw [List.set_append_right _ _ (by rw [hlen]; exact Nat.le_refl _), hlen, Nat.sub_self, List.drop_eq_getElem_cons (by omega), List.set_cons_zero, hm]
  simp
theorem marksSl_length (k : Int) (n : Nat) : (marksSl k n).length = n := by
  induction n generalizing k with
  | zero => rfl
  | succ n ih => simp [marksSl, ih]
theorem marksSl_at (k : Int) (n i : Nat) (h : i < n) : (marksSl k n)[i]? = some (k + 2 * i, k + 2 * i + 1) := by
  induction n generalizing k i with
  | zero => omega
  | succ n ih =>
    cases i with
    | zero => simp [marksSl]
    | succ i =>
      have := ih (k + 2) i (by omega)
      simp only [marksSl, List.getElem?_cons_succ, this]
      congr 2 <;> omega

/-! ### Numbers in cells -/
def intCells (l : List Int) : List Value := l.map (Value.int .i64)
theorem ints_len {w : World} {A : Option Addr} {n : Nat} {l : List Int} (h : Rd w 1 A n (intCells l)) : l.length = n := by
  have := h.len
  simp [intCells] at this
  omega
theorem Rd.int {w : World} {A : Option Addr} {n : Nat} {l : List Int} (h : Rd w 1 A n (intCells l)) (k : Nat) (hk : k < n) :
    ∃ b o p, A = some ⟨b, o, none⟩ ∧ l[k]? = some p ∧ w.cell? ⟨b, o + k, none⟩ = some (.int .i64 p) := by
  obtain ⟨b, o, e, hc⟩ := h.2 (by omega)
  have hl := ints_len h
  exact ⟨b, o, l[k], e, by rw [List.getElem?_eq_getElem (by omega)], hc k _ (by simp [intCells, List.getElem?_eq_getElem (show k < l.length by omega)])⟩
def marksInt (k : Int) (n : Nat) : List Int := (List.range n).map fun (i : Nat) => k + i
end Go.Proofs.YthieianmlfejgaaDoor
