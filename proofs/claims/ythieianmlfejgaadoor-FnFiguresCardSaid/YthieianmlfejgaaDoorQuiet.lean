/- A region that draws its order and whose operations only read or make new memory is walked once, in the order of the text. Plain lemmas over any program. No condition. -/
import Derived.WalkKit
import Derived.BigQuiet
import Derived.Deep.QuietTactic
import Derived.Lib.Hide
namespace Go.Proofs.YthieianmlfejgaaDoor
open Go.RowKit
set_option linter.unusedVariables false

/-- A world that is w0 with new blocks. -/
structure Ext (w0 : World) where
  w : World
  below : Below w0.heap.size w0 w

instance Ext.some (w0 : World) : Nonempty (Ext w0) := ⟨⟨w0, Below.refl _ _⟩⟩
theorem Ext.cell {w0 : World} (x : Ext w0) {p : Addr} (h : p.block < w0.heap.size) : x.w.cell? p = w0.cell? p := x.below.cell h
theorem Ext.out {w0 w' : World} (h : ∃ x : Ext w0, w' = x.w) : Below w0.heap.size w0 w' := by obtain ⟨x, rfl⟩ := h; exact x.below
theorem Ext.call {P : Program} {f : FuncId} {args : Array Value} {w0 : World} {v : Value} (x : Ext w0) (h : Calls P f args x.w fun e w' => e = .returned v ∧ Below x.w.heap.size x.w w') :
    Calls P f args x.w fun e w'' => e = .returned v ∧ ∃ y : Ext w0, w'' = y.w :=
  h.mono fun _ w' ⟨he, hb⟩ => ⟨he, ⟨w', x.below.trans (hb.mono x.below.size)⟩, rfl⟩
theorem Ext.same {P : Program} {f : FuncId} {args : Array Value} {w0 : World} {v : Value} (x : Ext w0) (h : Calls P f args x.w fun e w' => e = .returned v ∧ x.w = w') :
    Calls P f args x.w fun e w'' => e = .returned v ∧ ∃ y : Ext w0, w'' = y.w :=
  h.mono fun _ w' ⟨he, hb⟩ => ⟨he, x, hb.symm⟩

theorem wp_region_ext {P : Program} {id : Nat} {Q : Exit → Act → World → Prop} {a : Act} {w : World} {l : List Oper} (hm : P.follows .mixedOrders = true) (hB : Region.lexB .any l.toArray = true)
    (h : wpQuiet P l.toArray (fun w' => ∃ x : Ext w, w' = x.w) (fun a' => ∀ w', (∃ x : Ext w, w' = x.w) → Q .normal a' w') l a) : (Code.region id l.toArray true).wp P Q a w :=
  wp_region_quiet (C := fun w' => ∃ x : Ext w, w' = x.w) hm hB ⟨⟨_, (Below.refl _ _).drew⟩, rfl⟩ (by simpa using h)
end Go.Proofs.YthieianmlfejgaaDoor
