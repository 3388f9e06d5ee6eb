/- Plain functions: what the scalar and slot functions of the program and of the reference compute. No condition. -/
import Derived.WalkKit
namespace Go.Proofs.YthieianmlfejgaaDoor
open Go.RowKit

def inB (n a b : Int) : Bool := decide (a ≤ n) && decide (n ≤ b)
def rOk (r : Int) : Bool := decide (0 ≤ r) && decide (r ≤ 3)
def bothR (a b : Int) : Int := if rOk a && rOk b then bits BinOp.and IntKind.i64 a b else 0
def enough (r n : Int) : Bool := rOk r && (rOk n && (bits BinOp.and IntKind.i64 r n == n))
def brought (n a b : Int) : Int := if n < a ∨ b < a then a else if n ≤ b then n else b
def hasB (k n : Int) : Bool := decide (0 ≤ k) && decide (k < n)

/-- A slot: its page, its rights. -/
abbrev Sl := Int × Int
def noSlot : Sl := (-1, 0)
def slEq (p r q s : Int) : Bool := (p == q) && (r == s)
def slotOk (s : Sl) (pages : Int) : Bool := slEq s.1 s.2 (-1) 0 || (decide (0 < pages) && (inB s.1 0 (pages - 1) && inB s.2 1 3))
def slotAt (t : List Sl) (page : Int) : Sl := if hasB page t.length then t.getD page.toNat noSlot else noSlot
def composeSlot (i : Sl) (outer : List Sl) : Sl :=
  if i.1 = -1 ∨ (slotAt outer i.1).1 = -1 ∨ bothR i.2 (slotAt outer i.1).2 = 0 then noSlot else ((slotAt outer i.1).1, bothR i.2 (slotAt outer i.1).2)
def belowS (a b : Sl) : Bool := slEq a.1 a.2 (-1) 0 || ((a.1 == b.1) && enough b.2 a.2)
def restrictS (s : Sl) (r : Int) : Sl := if bothR s.2 r = 0 then noSlot else (s.1, bothR s.2 r)
def needOk (n : Int) : Bool := inB n 1 3
def walkInner (t : List Sl) (page need : Int) : Int × Bool :=
  if (slotAt t page).1 = -1 ∨ enough (slotAt t page).2 need = false ∨ needOk need = false then (-1, false) else ((slotAt t page).1, true)
def walkS (t o : List Sl) (page need : Int) : Int × Int :=
  if (walkInner t page need).2 = false then (-1, 1)
  else if (slotAt o (walkInner t page need).1).1 = -1 ∨ enough (slotAt o (walkInner t page need).1).2 need = false then (-1, 2)
  else ((slotAt o (walkInner t page need).1).1, 0)
def mapped (t : List Sl) : Nat := (t.filter fun s => s.1 != -1).length
def tableBelow (a b : List Sl) : Bool := decide (a.length = b.length) && (List.zip a b).all fun x => belowS x.1 x.2
def tableOk (t : List Sl) (size pages : Int) : Bool := (t.all fun s => slotOk s pages) && decide ((t.length : Int) = size)
def withSlot (t : List Sl) (page : Int) (s : Sl) : List Sl := if hasB page t.length then t.set page.toNat s else t

theorem inB_has (k n : Int) : inB k 0 (n - 1) = hasB k n := by
  unfold inB hasB
  congr 1
  exact decide_eq_decide.2 (by omega)
theorem rOk_iff (r : Int) : rOk r = true ↔ 0 ≤ r ∧ r ≤ 3 := by simp [rOk]
theorem rOk_cases {r : Int} (h : rOk r = true) : r = 0 ∨ r = 1 ∨ r = 2 ∨ r = 3 := by rw [rOk_iff] at h; omega
theorem slEq_iff (p r q s : Int) : slEq p r q s = true ↔ p = q ∧ r = s := by simp [slEq]
end Go.Proofs.YthieianmlfejgaaDoor
