/-
  No cell of these rows narrows 'for every input' (looked for: loops, veiled, ifaces, maps, wideKeys, modest, calm, conditions, laid).
  DERIVED. THE GIVEN ROWS OF THIS SEAT. 12 by the template 'for every input the law returns true; each argument reads behind the call as it read before'; 0 by the template 'total and deterministic' (their statements: YtoignannpbnjoaaTotals.lean).
  GIVEN WITH THE SEED: the statements are not yours to turn. If you find one false, say at which input.
  Laid BY PROGRAM, IN A SANDBOX (cutbox-rows.mjs): the forced cells as the released guide's own fill.sh prints them over the translation d11fd1a3e7fa04d6… (all of the seat's roots in one cut). By AI agents, Wed Nov 11 2026. No macro, syntax, notation, axiom, sorry.
-/
import Derived.Test.YtoignannpbnjoaaChecked
import GoSem.Claim
import GoSem.ClaimJoined
import GoSem.ClaimMapViews
import Derived.JoinedTies
import Derived.KernelRfl
namespace Go.Proofs.Ytoignannpbnjoaa
/- THE CELL 'sum', in the pinned program and in every row, IS THE sha256 OF THE DUMP (.gsa) THAT YtoignannpbnjoaaProg.lean LOADS. Nothing in Lean hashes anything: it is a label: what it is worth is what the hold of that sum in a sandbox is worth. -/
noncomputable def Try.pinned : Pinned := { name := "ytoignannpbnjoaa", sum := "d11fd1a3e7fa04d6315dbec6b393d8663ab98c1e47d08fe98f02d38fb74d0f85", checked := Try.checked }
namespace Rows
def none {H : Type} : Left H := { results := [], args := [] }

/-- 'laws.FnExactMapped': WHATEVER THE INPUT: true; the input reads as it did. -/
def fnExactMappedSpec : ChangeSpec := { name := "fnExactMapped", fn := fun _ => fun
  | [d] => { results := [.lit (.bool true)], args := [d] }
  | _ => none }
def fnExactMappedRow : OpenClaim := { program := "ytoignannpbnjoaa", sum := "d11fd1a3e7fa04d6315dbec6b393d8663ab98c1e47d08fe98f02d38fb74d0f85", func := "loop.example/g00975/laws.FnExactMapped", spec := "fnExactMapped", apart := false }
def FnExactMappedSaid : Prop := fnExactMappedRow.holds Try.pinned (OpenSpec.ofChange fnExactMappedSpec)

/-- ITS FALSE NEIGHBOUR: 'it returns false'. Refute it at one input. -/
def fnExactMappedWrong : ChangeSpec := { name := "fnExactMapped", fn := fun _ => fun
  | [d] => { results := [.lit (.bool false)], args := [d] }
  | _ => none }
def FnExactMappedWrongFalsely : Prop := fnExactMappedRow.holds Try.pinned (OpenSpec.ofChange fnExactMappedWrong)

/-- 'laws.FnExactSlotAt': WHATEVER THE INPUT: true; the input reads as it did. -/
def fnExactSlotAtSpec : ChangeSpec := { name := "fnExactSlotAt", fn := fun _ => fun
  | [d1, d2] => { results := [.lit (.bool true)], args := [d1, d2] }
  | _ => none }
def fnExactSlotAtRow : OpenClaim := { program := "ytoignannpbnjoaa", sum := "d11fd1a3e7fa04d6315dbec6b393d8663ab98c1e47d08fe98f02d38fb74d0f85", func := "loop.example/g00975/laws.FnExactSlotAt", spec := "fnExactSlotAt", apart := false }
def FnExactSlotAtSaid : Prop := fnExactSlotAtRow.holds Try.pinned (OpenSpec.ofChange fnExactSlotAtSpec)

/-- ITS FALSE NEIGHBOUR: 'it returns false'. Refute it at one input. -/
def fnExactSlotAtWrong : ChangeSpec := { name := "fnExactSlotAt", fn := fun _ => fun
  | [d1, d2] => { results := [.lit (.bool false)], args := [d1, d2] }
  | _ => none }
def FnExactSlotAtWrongFalsely : Prop := fnExactSlotAtRow.holds Try.pinned (OpenSpec.ofChange fnExactSlotAtWrong)

/-- 'laws.FnExactSameTable': WHATEVER THE INPUT: true; the input reads as it did. -/
def fnExactSameTableSpec : ChangeSpec := { name := "fnExactSameTable", fn := fun _ => fun
  | [d1, d2] => { results := [.lit (.bool true)], args := [d1, d2] }
  | _ => none }
def fnExactSameTableRow : OpenClaim := { program := "ytoignannpbnjoaa", sum := "d11fd1a3e7fa04d6315dbec6b393d8663ab98c1e47d08fe98f02d38fb74d0f85", func := "loop.example/g00975/laws.FnExactSameTable", spec := "fnExactSameTable", apart := false }
def FnExactSameTableSaid : Prop := fnExactSameTableRow.holds Try.pinned (OpenSpec.ofChange fnExactSameTableSpec)

/-- ITS FALSE NEIGHBOUR: 'it returns false'. Refute it at one input. -/
def fnExactSameTableWrong : ChangeSpec := { name := "fnExactSameTable", fn := fun _ => fun
  | [d1, d2] => { results := [.lit (.bool false)], args := [d1, d2] }
  | _ => none }
def FnExactSameTableWrongFalsely : Prop := fnExactSameTableRow.holds Try.pinned (OpenSpec.ofChange fnExactSameTableWrong)

/-- 'laws.FnExactTableOk': WHATEVER THE INPUT: true; the input reads as it did. -/
def fnExactTableOkSpec : ChangeSpec := { name := "fnExactTableOk", fn := fun _ => fun
  | [d1, d2, d3] => { results := [.lit (.bool true)], args := [d1, d2, d3] }
  | _ => none }
def fnExactTableOkRow : OpenClaim := { program := "ytoignannpbnjoaa", sum := "d11fd1a3e7fa04d6315dbec6b393d8663ab98c1e47d08fe98f02d38fb74d0f85", func := "loop.example/g00975/laws.FnExactTableOk", spec := "fnExactTableOk", apart := false }
def FnExactTableOkSaid : Prop := fnExactTableOkRow.holds Try.pinned (OpenSpec.ofChange fnExactTableOkSpec)

/-- ITS FALSE NEIGHBOUR: 'it returns false'. Refute it at one input. -/
def fnExactTableOkWrong : ChangeSpec := { name := "fnExactTableOk", fn := fun _ => fun
  | [d1, d2, d3] => { results := [.lit (.bool false)], args := [d1, d2, d3] }
  | _ => none }
def FnExactTableOkWrongFalsely : Prop := fnExactTableOkRow.holds Try.pinned (OpenSpec.ofChange fnExactTableOkWrong)

/-- 'laws.FnExactWithSlot': WHATEVER THE INPUT: true; the input reads as it did. -/
def fnExactWithSlotSpec : ChangeSpec := { name := "fnExactWithSlot", fn := fun _ => fun
  | [d1, d2, d3] => { results := [.lit (.bool true)], args := [d1, d2, d3] }
  | _ => none }
def fnExactWithSlotRow : OpenClaim := { program := "ytoignannpbnjoaa", sum := "d11fd1a3e7fa04d6315dbec6b393d8663ab98c1e47d08fe98f02d38fb74d0f85", func := "loop.example/g00975/laws.FnExactWithSlot", spec := "fnExactWithSlot", apart := false }
def FnExactWithSlotSaid : Prop := fnExactWithSlotRow.holds Try.pinned (OpenSpec.ofChange fnExactWithSlotSpec)

/-- ITS FALSE NEIGHBOUR: 'it returns false'. Refute it at one input. -/
def fnExactWithSlotWrong : ChangeSpec := { name := "fnExactWithSlot", fn := fun _ => fun
  | [d1, d2, d3] => { results := [.lit (.bool false)], args := [d1, d2, d3] }
  | _ => none }
def FnExactWithSlotWrongFalsely : Prop := fnExactWithSlotRow.holds Try.pinned (OpenSpec.ofChange fnExactWithSlotWrong)

/-- 'laws.FnExactTableBelow': WHATEVER THE INPUT: true; the input reads as it did. -/
def fnExactTableBelowSpec : ChangeSpec := { name := "fnExactTableBelow", fn := fun _ => fun
  | [d1, d2] => { results := [.lit (.bool true)], args := [d1, d2] }
  | _ => none }
def fnExactTableBelowRow : OpenClaim := { program := "ytoignannpbnjoaa", sum := "d11fd1a3e7fa04d6315dbec6b393d8663ab98c1e47d08fe98f02d38fb74d0f85", func := "loop.example/g00975/laws.FnExactTableBelow", spec := "fnExactTableBelow", apart := false }
def FnExactTableBelowSaid : Prop := fnExactTableBelowRow.holds Try.pinned (OpenSpec.ofChange fnExactTableBelowSpec)

/-- ITS FALSE NEIGHBOUR: 'it returns false'. Refute it at one input. -/
def fnExactTableBelowWrong : ChangeSpec := { name := "fnExactTableBelow", fn := fun _ => fun
  | [d1, d2] => { results := [.lit (.bool false)], args := [d1, d2] }
  | _ => none }
def FnExactTableBelowWrongFalsely : Prop := fnExactTableBelowRow.holds Try.pinned (OpenSpec.ofChange fnExactTableBelowWrong)

/-- 'laws.FnExactUsesOf': WHATEVER THE INPUT: true; the input reads as it did. -/
def fnExactUsesOfSpec : ChangeSpec := { name := "fnExactUsesOf", fn := fun _ => fun
  | [d1, d2] => { results := [.lit (.bool true)], args := [d1, d2] }
  | _ => none }
def fnExactUsesOfRow : OpenClaim := { program := "ytoignannpbnjoaa", sum := "d11fd1a3e7fa04d6315dbec6b393d8663ab98c1e47d08fe98f02d38fb74d0f85", func := "loop.example/g00975/laws.FnExactUsesOf", spec := "fnExactUsesOf", apart := false }
def FnExactUsesOfSaid : Prop := fnExactUsesOfRow.holds Try.pinned (OpenSpec.ofChange fnExactUsesOfSpec)

/-- ITS FALSE NEIGHBOUR: 'it returns false'. Refute it at one input. -/
def fnExactUsesOfWrong : ChangeSpec := { name := "fnExactUsesOf", fn := fun _ => fun
  | [d1, d2] => { results := [.lit (.bool false)], args := [d1, d2] }
  | _ => none }
def FnExactUsesOfWrongFalsely : Prop := fnExactUsesOfRow.holds Try.pinned (OpenSpec.ofChange fnExactUsesOfWrong)

/-- 'laws.FnExactComposeSlot': WHATEVER THE INPUT: true; the input reads as it did. -/
def fnExactComposeSlotSpec : ChangeSpec := { name := "fnExactComposeSlot", fn := fun _ => fun
  | [d1, d2] => { results := [.lit (.bool true)], args := [d1, d2] }
  | _ => none }
def fnExactComposeSlotRow : OpenClaim := { program := "ytoignannpbnjoaa", sum := "d11fd1a3e7fa04d6315dbec6b393d8663ab98c1e47d08fe98f02d38fb74d0f85", func := "loop.example/g00975/laws.FnExactComposeSlot", spec := "fnExactComposeSlot", apart := false }
def FnExactComposeSlotSaid : Prop := fnExactComposeSlotRow.holds Try.pinned (OpenSpec.ofChange fnExactComposeSlotSpec)

/-- ITS FALSE NEIGHBOUR: 'it returns false'. Refute it at one input. -/
def fnExactComposeSlotWrong : ChangeSpec := { name := "fnExactComposeSlot", fn := fun _ => fun
  | [d1, d2] => { results := [.lit (.bool false)], args := [d1, d2] }
  | _ => none }
def FnExactComposeSlotWrongFalsely : Prop := fnExactComposeSlotRow.holds Try.pinned (OpenSpec.ofChange fnExactComposeSlotWrong)

/-- 'laws.FnExactWalkInner': WHATEVER THE INPUT: true; the input reads as it did. -/
def fnExactWalkInnerSpec : ChangeSpec := { name := "fnExactWalkInner", fn := fun _ => fun
  | [d1, d2, d3] => { results := [.lit (.bool true)], args := [d1, d2, d3] }
  | _ => none }
def fnExactWalkInnerRow : OpenClaim := { program := "ytoignannpbnjoaa", sum := "d11fd1a3e7fa04d6315dbec6b393d8663ab98c1e47d08fe98f02d38fb74d0f85", func := "loop.example/g00975/laws.FnExactWalkInner", spec := "fnExactWalkInner", apart := false }
def FnExactWalkInnerSaid : Prop := fnExactWalkInnerRow.holds Try.pinned (OpenSpec.ofChange fnExactWalkInnerSpec)

/-- ITS FALSE NEIGHBOUR: 'it returns false'. Refute it at one input. -/
def fnExactWalkInnerWrong : ChangeSpec := { name := "fnExactWalkInner", fn := fun _ => fun
  | [d1, d2, d3] => { results := [.lit (.bool false)], args := [d1, d2, d3] }
  | _ => none }
def FnExactWalkInnerWrongFalsely : Prop := fnExactWalkInnerRow.holds Try.pinned (OpenSpec.ofChange fnExactWalkInnerWrong)

/-- 'laws.FnExactWalk': WHATEVER THE INPUT: true; the input reads as it did. -/
def fnExactWalkSpec : ChangeSpec := { name := "fnExactWalk", fn := fun _ => fun
  | [d1, d2, d3, d4] => { results := [.lit (.bool true)], args := [d1, d2, d3, d4] }
  | _ => none }
def fnExactWalkRow : OpenClaim := { program := "ytoignannpbnjoaa", sum := "d11fd1a3e7fa04d6315dbec6b393d8663ab98c1e47d08fe98f02d38fb74d0f85", func := "loop.example/g00975/laws.FnExactWalk", spec := "fnExactWalk", apart := false }
def FnExactWalkSaid : Prop := fnExactWalkRow.holds Try.pinned (OpenSpec.ofChange fnExactWalkSpec)

/-- ITS FALSE NEIGHBOUR: 'it returns false'. Refute it at one input. -/
def fnExactWalkWrong : ChangeSpec := { name := "fnExactWalk", fn := fun _ => fun
  | [d1, d2, d3, d4] => { results := [.lit (.bool false)], args := [d1, d2, d3, d4] }
  | _ => none }
def FnExactWalkWrongFalsely : Prop := fnExactWalkRow.holds Try.pinned (OpenSpec.ofChange fnExactWalkWrong)

/-- 'laws.FnExactRestrict': WHATEVER THE INPUT: true; the input reads as it did. -/
def fnExactRestrictSpec : ChangeSpec := { name := "fnExactRestrict", fn := fun _ => fun
  | [d1, d2] => { results := [.lit (.bool true)], args := [d1, d2] }
  | _ => none }
def fnExactRestrictRow : OpenClaim := { program := "ytoignannpbnjoaa", sum := "d11fd1a3e7fa04d6315dbec6b393d8663ab98c1e47d08fe98f02d38fb74d0f85", func := "loop.example/g00975/laws.FnExactRestrict", spec := "fnExactRestrict", apart := false }
def FnExactRestrictSaid : Prop := fnExactRestrictRow.holds Try.pinned (OpenSpec.ofChange fnExactRestrictSpec)

/-- ITS FALSE NEIGHBOUR: 'it returns false'. Refute it at one input. -/
def fnExactRestrictWrong : ChangeSpec := { name := "fnExactRestrict", fn := fun _ => fun
  | [d1, d2] => { results := [.lit (.bool false)], args := [d1, d2] }
  | _ => none }
def FnExactRestrictWrongFalsely : Prop := fnExactRestrictRow.holds Try.pinned (OpenSpec.ofChange fnExactRestrictWrong)

/-- 'laws.FnExactCompose': WHATEVER THE INPUT: true; the input reads as it did. -/
def fnExactComposeSpec : ChangeSpec := { name := "fnExactCompose", fn := fun _ => fun
  | [d1, d2] => { results := [.lit (.bool true)], args := [d1, d2] }
  | _ => none }
def fnExactComposeRow : OpenClaim := { program := "ytoignannpbnjoaa", sum := "d11fd1a3e7fa04d6315dbec6b393d8663ab98c1e47d08fe98f02d38fb74d0f85", func := "loop.example/g00975/laws.FnExactCompose", spec := "fnExactCompose", apart := false }
def FnExactComposeSaid : Prop := fnExactComposeRow.holds Try.pinned (OpenSpec.ofChange fnExactComposeSpec)

/-- ITS FALSE NEIGHBOUR: 'it returns false'. Refute it at one input. -/
def fnExactComposeWrong : ChangeSpec := { name := "fnExactCompose", fn := fun _ => fun
  | [d1, d2] => { results := [.lit (.bool false)], args := [d1, d2] }
  | _ => none }
def FnExactComposeWrongFalsely : Prop := fnExactComposeRow.holds Try.pinned (OpenSpec.ofChange fnExactComposeWrong)

/- THE SECOND FORM. 'bulk': how many values and letters a reading holds, each counted each time it is reached (what is shared counts as often as it is met; a slice's spare places count too). A statement '..UptoSaid' is the law's where the arguments, and the package variables that the reading takes, are together of bulk at most 1048576: NARROWER than '..Said'. Prove '..Said' where nothing that the law and all that it calls make is longer than what came in: it says more and counts as full. Else prove '..UptoSaid'. A law counts once. -/
mutual
def uptoBulk {H : Type} : DataW H → Nat
  | .lit (.string bytes) => bytes.length + 1
  | .lit _ => 1
  | .nil => 1
  | .ptr d => uptoBulk d + 1
  | .slice elems spare => uptoBulkAll elems + uptoBulkAll spare + 1
  | .agg parts => uptoBulkAll parts + 1
  | .iface _ d => uptoBulk d + 1
  | .map entries => uptoBulkEntries entries + 1
  | .held _ => 1
def uptoBulkAll {H : Type} : List (DataW H) → Nat
  | [] => 0
  | d :: r => uptoBulk d + uptoBulkAll r
def uptoBulkEntries {H : Type} : List (Lit × DataW H) → Nat
  | [] => 0
  | x :: r => uptoBulkEntry x + uptoBulkEntries r
def uptoBulkEntry {H : Type} : Lit × DataW H → Nat
  | (.string bytes, d) => bytes.length + uptoBulk d + 1
  | (_, d) => uptoBulk d + 1
 end
def uptoSmall : (H : Type) → List (DataW H) → Bool := fun _ ds => decide (uptoBulkAll ds ≤ 1048576)
def OpenSpec.upto (s : _root_.Go.ChangeSpec) : _root_.Go.OpenSpec := { _root_.Go.OpenSpec.ofChange s with cond := some uptoSmall }

/-- 'laws.FnExactMapped', WHERE WHAT IT READS IS OF BULK AT MOST 1048576: true; the input reads as it did. -/
def fnExactMappedUptoRow : OpenClaim := { program := "ytoignannpbnjoaa", sum := "d11fd1a3e7fa04d6315dbec6b393d8663ab98c1e47d08fe98f02d38fb74d0f85", func := "loop.example/g00975/laws.FnExactMapped", spec := "fnExactMapped", apart := false, narrowed := true }
def FnExactMappedUptoSaid : Prop := fnExactMappedUptoRow.holds Try.pinned (OpenSpec.upto fnExactMappedSpec)

/-- 'laws.FnExactSlotAt', WHERE WHAT IT READS IS OF BULK AT MOST 1048576: true; the input reads as it did. -/
def fnExactSlotAtUptoRow : OpenClaim := { program := "ytoignannpbnjoaa", sum := "d11fd1a3e7fa04d6315dbec6b393d8663ab98c1e47d08fe98f02d38fb74d0f85", func := "loop.example/g00975/laws.FnExactSlotAt", spec := "fnExactSlotAt", apart := false, narrowed := true }
def FnExactSlotAtUptoSaid : Prop := fnExactSlotAtUptoRow.holds Try.pinned (OpenSpec.upto fnExactSlotAtSpec)

/-- 'laws.FnExactSameTable', WHERE WHAT IT READS IS OF BULK AT MOST 1048576: true; the input reads as it did. -/
def fnExactSameTableUptoRow : OpenClaim := { program := "ytoignannpbnjoaa", sum := "d11fd1a3e7fa04d6315dbec6b393d8663ab98c1e47d08fe98f02d38fb74d0f85", func := "loop.example/g00975/laws.FnExactSameTable", spec := "fnExactSameTable", apart := false, narrowed := true }
def FnExactSameTableUptoSaid : Prop := fnExactSameTableUptoRow.holds Try.pinned (OpenSpec.upto fnExactSameTableSpec)

/-- 'laws.FnExactTableOk', WHERE WHAT IT READS IS OF BULK AT MOST 1048576: true; the input reads as it did. -/
def fnExactTableOkUptoRow : OpenClaim := { program := "ytoignannpbnjoaa", sum := "d11fd1a3e7fa04d6315dbec6b393d8663ab98c1e47d08fe98f02d38fb74d0f85", func := "loop.example/g00975/laws.FnExactTableOk", spec := "fnExactTableOk", apart := false, narrowed := true }
def FnExactTableOkUptoSaid : Prop := fnExactTableOkUptoRow.holds Try.pinned (OpenSpec.upto fnExactTableOkSpec)

/-- 'laws.FnExactWithSlot', WHERE WHAT IT READS IS OF BULK AT MOST 1048576: true; the input reads as it did. -/
def fnExactWithSlotUptoRow : OpenClaim := { program := "ytoignannpbnjoaa", sum := "d11fd1a3e7fa04d6315dbec6b393d8663ab98c1e47d08fe98f02d38fb74d0f85", func := "loop.example/g00975/laws.FnExactWithSlot", spec := "fnExactWithSlot", apart := false, narrowed := true }
def FnExactWithSlotUptoSaid : Prop := fnExactWithSlotUptoRow.holds Try.pinned (OpenSpec.upto fnExactWithSlotSpec)

/-- 'laws.FnExactTableBelow', WHERE WHAT IT READS IS OF BULK AT MOST 1048576: true; the input reads as it did. -/
def fnExactTableBelowUptoRow : OpenClaim := { program := "ytoignannpbnjoaa", sum := "d11fd1a3e7fa04d6315dbec6b393d8663ab98c1e47d08fe98f02d38fb74d0f85", func := "loop.example/g00975/laws.FnExactTableBelow", spec := "fnExactTableBelow", apart := false, narrowed := true }
def FnExactTableBelowUptoSaid : Prop := fnExactTableBelowUptoRow.holds Try.pinned (OpenSpec.upto fnExactTableBelowSpec)

/-- 'laws.FnExactUsesOf', WHERE WHAT IT READS IS OF BULK AT MOST 1048576: true; the input reads as it did. -/
def fnExactUsesOfUptoRow : OpenClaim := { program := "ytoignannpbnjoaa", sum := "d11fd1a3e7fa04d6315dbec6b393d8663ab98c1e47d08fe98f02d38fb74d0f85", func := "loop.example/g00975/laws.FnExactUsesOf", spec := "fnExactUsesOf", apart := false, narrowed := true }
def FnExactUsesOfUptoSaid : Prop := fnExactUsesOfUptoRow.holds Try.pinned (OpenSpec.upto fnExactUsesOfSpec)

/-- 'laws.FnExactComposeSlot', WHERE WHAT IT READS IS OF BULK AT MOST 1048576: true; the input reads as it did. -/
def fnExactComposeSlotUptoRow : OpenClaim := { program := "ytoignannpbnjoaa", sum := "d11fd1a3e7fa04d6315dbec6b393d8663ab98c1e47d08fe98f02d38fb74d0f85", func := "loop.example/g00975/laws.FnExactComposeSlot", spec := "fnExactComposeSlot", apart := false, narrowed := true }
def FnExactComposeSlotUptoSaid : Prop := fnExactComposeSlotUptoRow.holds Try.pinned (OpenSpec.upto fnExactComposeSlotSpec)

/-- 'laws.FnExactWalkInner', WHERE WHAT IT READS IS OF BULK AT MOST 1048576: true; the input reads as it did. -/
def fnExactWalkInnerUptoRow : OpenClaim := { program := "ytoignannpbnjoaa", sum := "d11fd1a3e7fa04d6315dbec6b393d8663ab98c1e47d08fe98f02d38fb74d0f85", func := "loop.example/g00975/laws.FnExactWalkInner", spec := "fnExactWalkInner", apart := false, narrowed := true }
def FnExactWalkInnerUptoSaid : Prop := fnExactWalkInnerUptoRow.holds Try.pinned (OpenSpec.upto fnExactWalkInnerSpec)

/-- 'laws.FnExactWalk', WHERE WHAT IT READS IS OF BULK AT MOST 1048576: true; the input reads as it did. -/
def fnExactWalkUptoRow : OpenClaim := { program := "ytoignannpbnjoaa", sum := "d11fd1a3e7fa04d6315dbec6b393d8663ab98c1e47d08fe98f02d38fb74d0f85", func := "loop.example/g00975/laws.FnExactWalk", spec := "fnExactWalk", apart := false, narrowed := true }
def FnExactWalkUptoSaid : Prop := fnExactWalkUptoRow.holds Try.pinned (OpenSpec.upto fnExactWalkSpec)

/-- 'laws.FnExactRestrict', WHERE WHAT IT READS IS OF BULK AT MOST 1048576: true; the input reads as it did. -/
def fnExactRestrictUptoRow : OpenClaim := { program := "ytoignannpbnjoaa", sum := "d11fd1a3e7fa04d6315dbec6b393d8663ab98c1e47d08fe98f02d38fb74d0f85", func := "loop.example/g00975/laws.FnExactRestrict", spec := "fnExactRestrict", apart := false, narrowed := true }
def FnExactRestrictUptoSaid : Prop := fnExactRestrictUptoRow.holds Try.pinned (OpenSpec.upto fnExactRestrictSpec)

/-- 'laws.FnExactCompose', WHERE WHAT IT READS IS OF BULK AT MOST 1048576: true; the input reads as it did. -/
def fnExactComposeUptoRow : OpenClaim := { program := "ytoignannpbnjoaa", sum := "d11fd1a3e7fa04d6315dbec6b393d8663ab98c1e47d08fe98f02d38fb74d0f85", func := "loop.example/g00975/laws.FnExactCompose", spec := "fnExactCompose", apart := false, narrowed := true }
def FnExactComposeUptoSaid : Prop := fnExactComposeUptoRow.holds Try.pinned (OpenSpec.upto fnExactComposeSpec)

end Rows
end Go.Proofs.Ytoignannpbnjoaa
