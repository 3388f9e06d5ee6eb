/-
  No cell of these rows narrows 'for every input' (looked for: loops, veiled, ifaces, maps, wideKeys, modest, calm, conditions, laid).
  DERIVED. THE GIVEN ROWS OF THIS SEAT. 12 by the template 'for every input the law returns true; each argument reads behind the call as it read before'; 0 by the template 'total and deterministic' (their statements: YtlfnhfipnjgifaaTotals.lean).
  GIVEN WITH THE SEED: the statements are not yours to turn. If you find one false, say at which input.
  Laid BY PROGRAM, IN A SANDBOX (cutbox-rows.mjs): the forced cells as the released guide's own fill.sh prints them over the translation 1591d43c6ccb1464… (all of the seat's roots in one cut). By AI agents, Wed Nov 11 2026. No macro, syntax, notation, axiom, sorry.
-/
import Derived.Test.YtlfnhfipnjgifaaChecked
import GoSem.Claim
import GoSem.ClaimJoined
import GoSem.ClaimMapViews
import Derived.JoinedTies
import Derived.KernelRfl
namespace Go.Proofs.Ytlfnhfipnjgifaa
/- THE CELL 'sum', in the pinned program and in every row, IS THE sha256 OF THE DUMP (.gsa) THAT YtlfnhfipnjgifaaProg.lean LOADS. Nothing in Lean hashes anything: it is a label: what it is worth is what the hold of that sum in a sandbox is worth. -/
noncomputable def Try.pinned : Pinned := { name := "ytlfnhfipnjgifaa", sum := "1591d43c6ccb146415079e7cf9fe8bc77c362dd530187e3dadbc539847bbdd17", checked := Try.checked }
namespace Rows
def none {H : Type} : Left H := { results := [], args := [] }

/-- 'laws.FnExactTableNew': WHATEVER THE INPUT: true; the input reads as it did. -/
def fnExactTableNewSpec : ChangeSpec := { name := "fnExactTableNew", fn := fun _ => fun
  | [d] => { results := [.lit (.bool true)], args := [d] }
  | _ => none }
def fnExactTableNewRow : OpenClaim := { program := "ytlfnhfipnjgifaa", sum := "1591d43c6ccb146415079e7cf9fe8bc77c362dd530187e3dadbc539847bbdd17", func := "loop.example/g00975/laws.FnExactTableNew", spec := "fnExactTableNew", apart := false }
def FnExactTableNewSaid : Prop := fnExactTableNewRow.holds Try.pinned (OpenSpec.ofChange fnExactTableNewSpec)

/-- ITS FALSE NEIGHBOUR: 'it returns false'. Refute it at one input. -/
def fnExactTableNewWrong : ChangeSpec := { name := "fnExactTableNew", fn := fun _ => fun
  | [d] => { results := [.lit (.bool false)], args := [d] }
  | _ => none }
def FnExactTableNewWrongFalsely : Prop := fnExactTableNewRow.holds Try.pinned (OpenSpec.ofChange fnExactTableNewWrong)

/-- 'laws.FnExactKeptNew': WHATEVER THE INPUT: true; the input reads as it did. -/
def fnExactKeptNewSpec : ChangeSpec := { name := "fnExactKeptNew", fn := fun _ => fun
  | [d] => { results := [.lit (.bool true)], args := [d] }
  | _ => none }
def fnExactKeptNewRow : OpenClaim := { program := "ytlfnhfipnjgifaa", sum := "1591d43c6ccb146415079e7cf9fe8bc77c362dd530187e3dadbc539847bbdd17", func := "loop.example/g00975/laws.FnExactKeptNew", spec := "fnExactKeptNew", apart := false }
def FnExactKeptNewSaid : Prop := fnExactKeptNewRow.holds Try.pinned (OpenSpec.ofChange fnExactKeptNewSpec)

/-- ITS FALSE NEIGHBOUR: 'it returns false'. Refute it at one input. -/
def fnExactKeptNewWrong : ChangeSpec := { name := "fnExactKeptNew", fn := fun _ => fun
  | [d] => { results := [.lit (.bool false)], args := [d] }
  | _ => none }
def FnExactKeptNewWrongFalsely : Prop := fnExactKeptNewRow.holds Try.pinned (OpenSpec.ofChange fnExactKeptNewWrong)

/-- 'laws.FnExactKnownIn': WHATEVER THE INPUT: true; the input reads as it did. -/
def fnExactKnownInSpec : ChangeSpec := { name := "fnExactKnownIn", fn := fun _ => fun
  | [d] => { results := [.lit (.bool true)], args := [d] }
  | _ => none }
def fnExactKnownInRow : OpenClaim := { program := "ytlfnhfipnjgifaa", sum := "1591d43c6ccb146415079e7cf9fe8bc77c362dd530187e3dadbc539847bbdd17", func := "loop.example/g00975/laws.FnExactKnownIn", spec := "fnExactKnownIn", apart := false }
def FnExactKnownInSaid : Prop := fnExactKnownInRow.holds Try.pinned (OpenSpec.ofChange fnExactKnownInSpec)

/-- ITS FALSE NEIGHBOUR: 'it returns false'. Refute it at one input. -/
def fnExactKnownInWrong : ChangeSpec := { name := "fnExactKnownIn", fn := fun _ => fun
  | [d] => { results := [.lit (.bool false)], args := [d] }
  | _ => none }
def FnExactKnownInWrongFalsely : Prop := fnExactKnownInRow.holds Try.pinned (OpenSpec.ofChange fnExactKnownInWrong)

/-- 'laws.FnExactAsk': WHATEVER THE INPUT: true; the input reads as it did. -/
def fnExactAskSpec : ChangeSpec := { name := "fnExactAsk", fn := fun _ => fun
  | [d1, d2] => { results := [.lit (.bool true)], args := [d1, d2] }
  | _ => none }
def fnExactAskRow : OpenClaim := { program := "ytlfnhfipnjgifaa", sum := "1591d43c6ccb146415079e7cf9fe8bc77c362dd530187e3dadbc539847bbdd17", func := "loop.example/g00975/laws.FnExactAsk", spec := "fnExactAsk", apart := false }
def FnExactAskSaid : Prop := fnExactAskRow.holds Try.pinned (OpenSpec.ofChange fnExactAskSpec)

/-- ITS FALSE NEIGHBOUR: 'it returns false'. Refute it at one input. -/
def fnExactAskWrong : ChangeSpec := { name := "fnExactAsk", fn := fun _ => fun
  | [d1, d2] => { results := [.lit (.bool false)], args := [d1, d2] }
  | _ => none }
def FnExactAskWrongFalsely : Prop := fnExactAskRow.holds Try.pinned (OpenSpec.ofChange fnExactAskWrong)

/-- 'laws.FnExactFaults': WHATEVER THE INPUT: true; the input reads as it did. -/
def fnExactFaultsSpec : ChangeSpec := { name := "fnExactFaults", fn := fun _ => fun
  | [d1, d2, d3] => { results := [.lit (.bool true)], args := [d1, d2, d3] }
  | _ => none }
def fnExactFaultsRow : OpenClaim := { program := "ytlfnhfipnjgifaa", sum := "1591d43c6ccb146415079e7cf9fe8bc77c362dd530187e3dadbc539847bbdd17", func := "loop.example/g00975/laws.FnExactFaults", spec := "fnExactFaults", apart := false }
def FnExactFaultsSaid : Prop := fnExactFaultsRow.holds Try.pinned (OpenSpec.ofChange fnExactFaultsSpec)

/-- ITS FALSE NEIGHBOUR: 'it returns false'. Refute it at one input. -/
def fnExactFaultsWrong : ChangeSpec := { name := "fnExactFaults", fn := fun _ => fun
  | [d1, d2, d3] => { results := [.lit (.bool false)], args := [d1, d2, d3] }
  | _ => none }
def FnExactFaultsWrongFalsely : Prop := fnExactFaultsRow.holds Try.pinned (OpenSpec.ofChange fnExactFaultsWrong)

/-- 'laws.FnPutTwice': WHATEVER THE INPUT: true; the input reads as it did. -/
def fnPutTwiceSpec : ChangeSpec := { name := "fnPutTwice", fn := fun _ => fun
  | [d] => { results := [.lit (.bool true)], args := [d] }
  | _ => none }
def fnPutTwiceRow : OpenClaim := { program := "ytlfnhfipnjgifaa", sum := "1591d43c6ccb146415079e7cf9fe8bc77c362dd530187e3dadbc539847bbdd17", func := "loop.example/g00975/laws.FnPutTwice", spec := "fnPutTwice", apart := false }
def FnPutTwiceSaid : Prop := fnPutTwiceRow.holds Try.pinned (OpenSpec.ofChange fnPutTwiceSpec)

/-- ITS FALSE NEIGHBOUR: 'it returns false'. Refute it at one input. -/
def fnPutTwiceWrong : ChangeSpec := { name := "fnPutTwice", fn := fun _ => fun
  | [d] => { results := [.lit (.bool false)], args := [d] }
  | _ => none }
def FnPutTwiceWrongFalsely : Prop := fnPutTwiceRow.holds Try.pinned (OpenSpec.ofChange fnPutTwiceWrong)

/-- 'laws.FnUses': WHATEVER THE INPUT: true; the input reads as it did. -/
def fnUsesSpec : ChangeSpec := { name := "fnUses", fn := fun _ => fun
  | [d] => { results := [.lit (.bool true)], args := [d] }
  | _ => none }
def fnUsesRow : OpenClaim := { program := "ytlfnhfipnjgifaa", sum := "1591d43c6ccb146415079e7cf9fe8bc77c362dd530187e3dadbc539847bbdd17", func := "loop.example/g00975/laws.FnUses", spec := "fnUses", apart := false }
def FnUsesSaid : Prop := fnUsesRow.holds Try.pinned (OpenSpec.ofChange fnUsesSpec)

/-- ITS FALSE NEIGHBOUR: 'it returns false'. Refute it at one input. -/
def fnUsesWrong : ChangeSpec := { name := "fnUses", fn := fun _ => fun
  | [d] => { results := [.lit (.bool false)], args := [d] }
  | _ => none }
def FnUsesWrongFalsely : Prop := fnUsesRow.holds Try.pinned (OpenSpec.ofChange fnUsesWrong)

/-- 'laws.FnMonotone': WHATEVER THE INPUT: true; the input reads as it did. -/
def fnMonotoneSpec : ChangeSpec := { name := "fnMonotone", fn := fun _ => fun
  | [d] => { results := [.lit (.bool true)], args := [d] }
  | _ => none }
def fnMonotoneRow : OpenClaim := { program := "ytlfnhfipnjgifaa", sum := "1591d43c6ccb146415079e7cf9fe8bc77c362dd530187e3dadbc539847bbdd17", func := "loop.example/g00975/laws.FnMonotone", spec := "fnMonotone", apart := false }
def FnMonotoneSaid : Prop := fnMonotoneRow.holds Try.pinned (OpenSpec.ofChange fnMonotoneSpec)

/-- ITS FALSE NEIGHBOUR: 'it returns false'. Refute it at one input. -/
def fnMonotoneWrong : ChangeSpec := { name := "fnMonotone", fn := fun _ => fun
  | [d] => { results := [.lit (.bool false)], args := [d] }
  | _ => none }
def FnMonotoneWrongFalsely : Prop := fnMonotoneRow.holds Try.pinned (OpenSpec.ofChange fnMonotoneWrong)

/-- 'laws.FnThrough': WHATEVER THE INPUT: true; the input reads as it did. -/
def fnThroughSpec : ChangeSpec := { name := "fnThrough", fn := fun _ => fun
  | [d] => { results := [.lit (.bool true)], args := [d] }
  | _ => none }
def fnThroughRow : OpenClaim := { program := "ytlfnhfipnjgifaa", sum := "1591d43c6ccb146415079e7cf9fe8bc77c362dd530187e3dadbc539847bbdd17", func := "loop.example/g00975/laws.FnThrough", spec := "fnThrough", apart := false }
def FnThroughSaid : Prop := fnThroughRow.holds Try.pinned (OpenSpec.ofChange fnThroughSpec)

/-- ITS FALSE NEIGHBOUR: 'it returns false'. Refute it at one input. -/
def fnThroughWrong : ChangeSpec := { name := "fnThrough", fn := fun _ => fun
  | [d] => { results := [.lit (.bool false)], args := [d] }
  | _ => none }
def FnThroughWrongFalsely : Prop := fnThroughRow.holds Try.pinned (OpenSpec.ofChange fnThroughWrong)

/-- 'laws.FnWalks': WHATEVER THE INPUT: true; the input reads as it did. -/
def fnWalksSpec : ChangeSpec := { name := "fnWalks", fn := fun _ => fun
  | [d] => { results := [.lit (.bool true)], args := [d] }
  | _ => none }
def fnWalksRow : OpenClaim := { program := "ytlfnhfipnjgifaa", sum := "1591d43c6ccb146415079e7cf9fe8bc77c362dd530187e3dadbc539847bbdd17", func := "loop.example/g00975/laws.FnWalks", spec := "fnWalks", apart := false }
def FnWalksSaid : Prop := fnWalksRow.holds Try.pinned (OpenSpec.ofChange fnWalksSpec)

/-- ITS FALSE NEIGHBOUR: 'it returns false'. Refute it at one input. -/
def fnWalksWrong : ChangeSpec := { name := "fnWalks", fn := fun _ => fun
  | [d] => { results := [.lit (.bool false)], args := [d] }
  | _ => none }
def FnWalksWrongFalsely : Prop := fnWalksRow.holds Try.pinned (OpenSpec.ofChange fnWalksWrong)

/-- 'laws.FnSlots': WHATEVER THE INPUT: true; the input reads as it did. -/
def fnSlotsSpec : ChangeSpec := { name := "fnSlots", fn := fun _ => fun
  | [d] => { results := [.lit (.bool true)], args := [d] }
  | _ => none }
def fnSlotsRow : OpenClaim := { program := "ytlfnhfipnjgifaa", sum := "1591d43c6ccb146415079e7cf9fe8bc77c362dd530187e3dadbc539847bbdd17", func := "loop.example/g00975/laws.FnSlots", spec := "fnSlots", apart := false }
def FnSlotsSaid : Prop := fnSlotsRow.holds Try.pinned (OpenSpec.ofChange fnSlotsSpec)

/-- ITS FALSE NEIGHBOUR: 'it returns false'. Refute it at one input. -/
def fnSlotsWrong : ChangeSpec := { name := "fnSlots", fn := fun _ => fun
  | [d] => { results := [.lit (.bool false)], args := [d] }
  | _ => none }
def FnSlotsWrongFalsely : Prop := fnSlotsRow.holds Try.pinned (OpenSpec.ofChange fnSlotsWrong)

/-- 'laws.FnComposed': WHATEVER THE INPUT: true; the input reads as it did. -/
def fnComposedSpec : ChangeSpec := { name := "fnComposed", fn := fun _ => fun
  | [d] => { results := [.lit (.bool true)], args := [d] }
  | _ => none }
def fnComposedRow : OpenClaim := { program := "ytlfnhfipnjgifaa", sum := "1591d43c6ccb146415079e7cf9fe8bc77c362dd530187e3dadbc539847bbdd17", func := "loop.example/g00975/laws.FnComposed", spec := "fnComposed", apart := false }
def FnComposedSaid : Prop := fnComposedRow.holds Try.pinned (OpenSpec.ofChange fnComposedSpec)

/-- ITS FALSE NEIGHBOUR: 'it returns false'. Refute it at one input. -/
def fnComposedWrong : ChangeSpec := { name := "fnComposed", fn := fun _ => fun
  | [d] => { results := [.lit (.bool false)], args := [d] }
  | _ => none }
def FnComposedWrongFalsely : Prop := fnComposedRow.holds Try.pinned (OpenSpec.ofChange fnComposedWrong)

/- THE SECOND FORM. 'bulk': how many values and letters a reading holds, each counted each time it is reached (what is shared counts as often as it is met; a slice's spare places count too). A statement '..UptoSaid' is the law's where the arguments, and the package variables that the reading takes, are together of bulk at most 1048576: NARROWER than '..Said'. Prove '..Said' where nothing that the law and all that it calls make is longer than what came in: it says more and counts as full. Else prove '..UptoSaid'. A law counts once. -/
mutual
def uptoBulk {H : Type} : DataW H → Nat
  | .lit (.string bytes) => bytes.length + 1
  | .lit _ => 1
  | .nil => 1
  | .ptr d => uptoBulk d + 1
  | .slice elems spare => uptoBulkAll elems + uptoBulkAll spare + 1
  | .agg parts => uptoBulkAll parts + 1
  | .iface _ d => uptoBulk d + 1
  | .map entries => uptoBulkEntries entries + 1
  | .held _ => 1
def uptoBulkAll {H : Type} : List (DataW H) → Nat
  | [] => 0
  | d :: r => uptoBulk d + uptoBulkAll r
def uptoBulkEntries {H : Type} : List (Lit × DataW H) → Nat
  | [] => 0
  | x :: r => uptoBulkEntry x + uptoBulkEntries r
def uptoBulkEntry {H : Type} : Lit × DataW H → Nat
  | (.string bytes, d) => bytes.length + uptoBulk d + 1
  | (_, d) => uptoBulk d + 1
 end
def uptoSmall : (H : Type) → List (DataW H) → Bool := fun _ ds => decide (uptoBulkAll ds ≤ 1048576)
def OpenSpec.upto (s : _root_.Go.ChangeSpec) : _root_.Go.OpenSpec := { _root_.Go.OpenSpec.ofChange s with cond := some uptoSmall }

/-- 'laws.FnExactTableNew', WHERE WHAT IT READS IS OF BULK AT MOST 1048576: true; the input reads as it did. -/
def fnExactTableNewUptoRow : OpenClaim := { program := "ytlfnhfipnjgifaa", sum := "1591d43c6ccb146415079e7cf9fe8bc77c362dd530187e3dadbc539847bbdd17", func := "loop.example/g00975/laws.FnExactTableNew", spec := "fnExactTableNew", apart := false, narrowed := true }
def FnExactTableNewUptoSaid : Prop := fnExactTableNewUptoRow.holds Try.pinned (OpenSpec.upto fnExactTableNewSpec)

/-- 'laws.FnExactKeptNew', WHERE WHAT IT READS IS OF BULK AT MOST 1048576: true; the input reads as it did. -/
def fnExactKeptNewUptoRow : OpenClaim := { program := "ytlfnhfipnjgifaa", sum := "1591d43c6ccb146415079e7cf9fe8bc77c362dd530187e3dadbc539847bbdd17", func := "loop.example/g00975/laws.FnExactKeptNew", spec := "fnExactKeptNew", apart := false, narrowed := true }
def FnExactKeptNewUptoSaid : Prop := fnExactKeptNewUptoRow.holds Try.pinned (OpenSpec.upto fnExactKeptNewSpec)

/-- 'laws.FnExactKnownIn', WHERE WHAT IT READS IS OF BULK AT MOST 1048576: true; the input reads as it did. -/
def fnExactKnownInUptoRow : OpenClaim := { program := "ytlfnhfipnjgifaa", sum := "1591d43c6ccb146415079e7cf9fe8bc77c362dd530187e3dadbc539847bbdd17", func := "loop.example/g00975/laws.FnExactKnownIn", spec := "fnExactKnownIn", apart := false, narrowed := true }
def FnExactKnownInUptoSaid : Prop := fnExactKnownInUptoRow.holds Try.pinned (OpenSpec.upto fnExactKnownInSpec)

/-- 'laws.FnExactAsk', WHERE WHAT IT READS IS OF BULK AT MOST 1048576: true; the input reads as it did. -/
def fnExactAskUptoRow : OpenClaim := { program := "ytlfnhfipnjgifaa", sum := "1591d43c6ccb146415079e7cf9fe8bc77c362dd530187e3dadbc539847bbdd17", func := "loop.example/g00975/laws.FnExactAsk", spec := "fnExactAsk", apart := false, narrowed := true }
def FnExactAskUptoSaid : Prop := fnExactAskUptoRow.holds Try.pinned (OpenSpec.upto fnExactAskSpec)

/-- 'laws.FnExactFaults', WHERE WHAT IT READS IS OF BULK AT MOST 1048576: true; the input reads as it did. -/
def fnExactFaultsUptoRow : OpenClaim := { program := "ytlfnhfipnjgifaa", sum := "1591d43c6ccb146415079e7cf9fe8bc77c362dd530187e3dadbc539847bbdd17", func := "loop.example/g00975/laws.FnExactFaults", spec := "fnExactFaults", apart := false, narrowed := true }
def FnExactFaultsUptoSaid : Prop := fnExactFaultsUptoRow.holds Try.pinned (OpenSpec.upto fnExactFaultsSpec)

/-- 'laws.FnPutTwice', WHERE WHAT IT READS IS OF BULK AT MOST 1048576: true; the input reads as it did. -/
def fnPutTwiceUptoRow : OpenClaim := { program := "ytlfnhfipnjgifaa", sum := "1591d43c6ccb146415079e7cf9fe8bc77c362dd530187e3dadbc539847bbdd17", func := "loop.example/g00975/laws.FnPutTwice", spec := "fnPutTwice", apart := false, narrowed := true }
def FnPutTwiceUptoSaid : Prop := fnPutTwiceUptoRow.holds Try.pinned (OpenSpec.upto fnPutTwiceSpec)

/-- 'laws.FnUses', WHERE WHAT IT READS IS OF BULK AT MOST 1048576: true; the input reads as it did. -/
def fnUsesUptoRow : OpenClaim := { program := "ytlfnhfipnjgifaa", sum := "1591d43c6ccb146415079e7cf9fe8bc77c362dd530187e3dadbc539847bbdd17", func := "loop.example/g00975/laws.FnUses", spec := "fnUses", apart := false, narrowed := true }
def FnUsesUptoSaid : Prop := fnUsesUptoRow.holds Try.pinned (OpenSpec.upto fnUsesSpec)

/-- 'laws.FnMonotone', WHERE WHAT IT READS IS OF BULK AT MOST 1048576: true; the input reads as it did. -/
def fnMonotoneUptoRow : OpenClaim := { program := "ytlfnhfipnjgifaa", sum := "1591d43c6ccb146415079e7cf9fe8bc77c362dd530187e3dadbc539847bbdd17", func := "loop.example/g00975/laws.FnMonotone", spec := "fnMonotone", apart := false, narrowed := true }
def FnMonotoneUptoSaid : Prop := fnMonotoneUptoRow.holds Try.pinned (OpenSpec.upto fnMonotoneSpec)

/-- 'laws.FnThrough', WHERE WHAT IT READS IS OF BULK AT MOST 1048576: true; the input reads as it did. -/
def fnThroughUptoRow : OpenClaim := { program := "ytlfnhfipnjgifaa", sum := "1591d43c6ccb146415079e7cf9fe8bc77c362dd530187e3dadbc539847bbdd17", func := "loop.example/g00975/laws.FnThrough", spec := "fnThrough", apart := false, narrowed := true }
def FnThroughUptoSaid : Prop := fnThroughUptoRow.holds Try.pinned (OpenSpec.upto fnThroughSpec)

/-- 'laws.FnWalks', WHERE WHAT IT READS IS OF BULK AT MOST 1048576: true; the input reads as it did. -/
def fnWalksUptoRow : OpenClaim := { program := "ytlfnhfipnjgifaa", sum := "1591d43c6ccb146415079e7cf9fe8bc77c362dd530187e3dadbc539847bbdd17", func := "loop.example/g00975/laws.FnWalks", spec := "fnWalks", apart := false, narrowed := true }
def FnWalksUptoSaid : Prop := fnWalksUptoRow.holds Try.pinned (OpenSpec.upto fnWalksSpec)

/-- 'laws.FnSlots', WHERE WHAT IT READS IS OF BULK AT MOST 1048576: true; the input reads as it did. -/
def fnSlotsUptoRow : OpenClaim := { program := "ytlfnhfipnjgifaa", sum := "1591d43c6ccb146415079e7cf9fe8bc77c362dd530187e3dadbc539847bbdd17", func := "loop.example/g00975/laws.FnSlots", spec := "fnSlots", apart := false, narrowed := true }
def FnSlotsUptoSaid : Prop := fnSlotsUptoRow.holds Try.pinned (OpenSpec.upto fnSlotsSpec)

/-- 'laws.FnComposed', WHERE WHAT IT READS IS OF BULK AT MOST 1048576: true; the input reads as it did. -/
def fnComposedUptoRow : OpenClaim := { program := "ytlfnhfipnjgifaa", sum := "1591d43c6ccb146415079e7cf9fe8bc77c362dd530187e3dadbc539847bbdd17", func := "loop.example/g00975/laws.FnComposed", spec := "fnComposed", apart := false, narrowed := true }
def FnComposedUptoSaid : Prop := fnComposedUptoRow.holds Try.pinned (OpenSpec.upto fnComposedSpec)

end Rows
end Go.Proofs.Ytlfnhfipnjgifaa
