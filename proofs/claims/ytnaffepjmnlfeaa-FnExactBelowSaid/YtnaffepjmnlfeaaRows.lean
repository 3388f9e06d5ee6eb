/-
  No cell of these rows narrows 'for every input' (looked for: loops, veiled, ifaces, maps, wideKeys, modest, calm, conditions, laid).
  DERIVED. THE GIVEN ROWS OF THIS SEAT. 12 by the template 'for every input the law returns true; each argument reads behind the call as it read before'; 0 by the template 'total and deterministic' (their statements: YtnaffepjmnlfeaaTotals.lean).
  GIVEN WITH THE SEED: the statements are not yours to turn. If you find one false, say at which input.
  Laid BY PROGRAM, IN A SANDBOX (cutbox-rows.mjs): the forced cells as the released guide's own fill.sh prints them over the translation dc79c35afc25f663… (all of the seat's roots in one cut). By AI agents, Wed Nov 11 2026. No macro, syntax, notation, axiom, sorry.
-/
import Derived.Test.YtnaffepjmnlfeaaChecked
import GoSem.Claim
import GoSem.ClaimJoined
import GoSem.ClaimMapViews
import Derived.JoinedTies
import Derived.KernelRfl
namespace Go.Proofs.Ytnaffepjmnlfeaa
/- THE CELL 'sum', in the pinned program and in every row, IS THE sha256 OF THE DUMP (.gsa) THAT YtnaffepjmnlfeaaProg.lean LOADS. Nothing in Lean hashes anything: it is a label: what it is worth is what the hold of that sum in a sandbox is worth. -/
noncomputable def Try.pinned : Pinned := { name := "ytnaffepjmnlfeaa", sum := "dc79c35afc25f663164c483e380dc70b18747137900b28da29f8b56f26d3c724", checked := Try.checked }
namespace Rows
def none {H : Type} : Left H := { results := [], args := [] }

/-- 'laws.FnExactConstants': WHATEVER THE INPUT: true; the input reads as it did. -/
def fnExactConstantsSpec : ChangeSpec := { name := "fnExactConstants", fn := fun _ => fun
  | [] => { results := [.lit (.bool true)], args := [] }
  | _ => none }
def fnExactConstantsRow : OpenClaim := { program := "ytnaffepjmnlfeaa", sum := "dc79c35afc25f663164c483e380dc70b18747137900b28da29f8b56f26d3c724", func := "loop.example/g00975/laws.FnExactConstants", spec := "fnExactConstants", apart := false }
def FnExactConstantsSaid : Prop := fnExactConstantsRow.holds Try.pinned (OpenSpec.ofChange fnExactConstantsSpec)

/-- ITS FALSE NEIGHBOUR: 'it returns false'. Refute it at one input. -/
def fnExactConstantsWrong : ChangeSpec := { name := "fnExactConstants", fn := fun _ => fun
  | [] => { results := [.lit (.bool false)], args := [] }
  | _ => none }
def FnExactConstantsWrongFalsely : Prop := fnExactConstantsRow.holds Try.pinned (OpenSpec.ofChange fnExactConstantsWrong)

/-- 'laws.FnExactRightsOk': WHATEVER THE INPUT: true; the input reads as it did. -/
def fnExactRightsOkSpec : ChangeSpec := { name := "fnExactRightsOk", fn := fun _ => fun
  | [d] => { results := [.lit (.bool true)], args := [d] }
  | _ => none }
def fnExactRightsOkRow : OpenClaim := { program := "ytnaffepjmnlfeaa", sum := "dc79c35afc25f663164c483e380dc70b18747137900b28da29f8b56f26d3c724", func := "loop.example/g00975/laws.FnExactRightsOk", spec := "fnExactRightsOk", apart := false }
def FnExactRightsOkSaid : Prop := fnExactRightsOkRow.holds Try.pinned (OpenSpec.ofChange fnExactRightsOkSpec)

/-- ITS FALSE NEIGHBOUR: 'it returns false'. Refute it at one input. -/
def fnExactRightsOkWrong : ChangeSpec := { name := "fnExactRightsOk", fn := fun _ => fun
  | [d] => { results := [.lit (.bool false)], args := [d] }
  | _ => none }
def FnExactRightsOkWrongFalsely : Prop := fnExactRightsOkRow.holds Try.pinned (OpenSpec.ofChange fnExactRightsOkWrong)

/-- 'laws.FnExactAddrCell': WHATEVER THE INPUT: true; the input reads as it did. -/
def fnExactAddrCellSpec : ChangeSpec := { name := "fnExactAddrCell", fn := fun _ => fun
  | [d] => { results := [.lit (.bool true)], args := [d] }
  | _ => none }
def fnExactAddrCellRow : OpenClaim := { program := "ytnaffepjmnlfeaa", sum := "dc79c35afc25f663164c483e380dc70b18747137900b28da29f8b56f26d3c724", func := "loop.example/g00975/laws.FnExactAddrCell", spec := "fnExactAddrCell", apart := false }
def FnExactAddrCellSaid : Prop := fnExactAddrCellRow.holds Try.pinned (OpenSpec.ofChange fnExactAddrCellSpec)

/-- ITS FALSE NEIGHBOUR: 'it returns false'. Refute it at one input. -/
def fnExactAddrCellWrong : ChangeSpec := { name := "fnExactAddrCell", fn := fun _ => fun
  | [d] => { results := [.lit (.bool false)], args := [d] }
  | _ => none }
def FnExactAddrCellWrongFalsely : Prop := fnExactAddrCellRow.holds Try.pinned (OpenSpec.ofChange fnExactAddrCellWrong)

/-- 'laws.FnExactAddrPage': WHATEVER THE INPUT: true; the input reads as it did. -/
def fnExactAddrPageSpec : ChangeSpec := { name := "fnExactAddrPage", fn := fun _ => fun
  | [d] => { results := [.lit (.bool true)], args := [d] }
  | _ => none }
def fnExactAddrPageRow : OpenClaim := { program := "ytnaffepjmnlfeaa", sum := "dc79c35afc25f663164c483e380dc70b18747137900b28da29f8b56f26d3c724", func := "loop.example/g00975/laws.FnExactAddrPage", spec := "fnExactAddrPage", apart := false }
def FnExactAddrPageSaid : Prop := fnExactAddrPageRow.holds Try.pinned (OpenSpec.ofChange fnExactAddrPageSpec)

/-- ITS FALSE NEIGHBOUR: 'it returns false'. Refute it at one input. -/
def fnExactAddrPageWrong : ChangeSpec := { name := "fnExactAddrPage", fn := fun _ => fun
  | [d] => { results := [.lit (.bool false)], args := [d] }
  | _ => none }
def FnExactAddrPageWrongFalsely : Prop := fnExactAddrPageRow.holds Try.pinned (OpenSpec.ofChange fnExactAddrPageWrong)

/-- 'laws.FnExactNeedOf': WHATEVER THE INPUT: true; the input reads as it did. -/
def fnExactNeedOfSpec : ChangeSpec := { name := "fnExactNeedOf", fn := fun _ => fun
  | [d] => { results := [.lit (.bool true)], args := [d] }
  | _ => none }
def fnExactNeedOfRow : OpenClaim := { program := "ytnaffepjmnlfeaa", sum := "dc79c35afc25f663164c483e380dc70b18747137900b28da29f8b56f26d3c724", func := "loop.example/g00975/laws.FnExactNeedOf", spec := "fnExactNeedOf", apart := false }
def FnExactNeedOfSaid : Prop := fnExactNeedOfRow.holds Try.pinned (OpenSpec.ofChange fnExactNeedOfSpec)

/-- ITS FALSE NEIGHBOUR: 'it returns false'. Refute it at one input. -/
def fnExactNeedOfWrong : ChangeSpec := { name := "fnExactNeedOf", fn := fun _ => fun
  | [d] => { results := [.lit (.bool false)], args := [d] }
  | _ => none }
def FnExactNeedOfWrongFalsely : Prop := fnExactNeedOfRow.holds Try.pinned (OpenSpec.ofChange fnExactNeedOfWrong)

/-- 'laws.FnExactNoSlot': WHATEVER THE INPUT: true; the input reads as it did. -/
def fnExactNoSlotSpec : ChangeSpec := { name := "fnExactNoSlot", fn := fun _ => fun
  | [] => { results := [.lit (.bool true)], args := [] }
  | _ => none }
def fnExactNoSlotRow : OpenClaim := { program := "ytnaffepjmnlfeaa", sum := "dc79c35afc25f663164c483e380dc70b18747137900b28da29f8b56f26d3c724", func := "loop.example/g00975/laws.FnExactNoSlot", spec := "fnExactNoSlot", apart := false }
def FnExactNoSlotSaid : Prop := fnExactNoSlotRow.holds Try.pinned (OpenSpec.ofChange fnExactNoSlotSpec)

/-- ITS FALSE NEIGHBOUR: 'it returns false'. Refute it at one input. -/
def fnExactNoSlotWrong : ChangeSpec := { name := "fnExactNoSlot", fn := fun _ => fun
  | [] => { results := [.lit (.bool false)], args := [] }
  | _ => none }
def FnExactNoSlotWrongFalsely : Prop := fnExactNoSlotRow.holds Try.pinned (OpenSpec.ofChange fnExactNoSlotWrong)

/-- 'laws.FnExactEnough': WHATEVER THE INPUT: true; the input reads as it did. -/
def fnExactEnoughSpec : ChangeSpec := { name := "fnExactEnough", fn := fun _ => fun
  | [d1, d2] => { results := [.lit (.bool true)], args := [d1, d2] }
  | _ => none }
def fnExactEnoughRow : OpenClaim := { program := "ytnaffepjmnlfeaa", sum := "dc79c35afc25f663164c483e380dc70b18747137900b28da29f8b56f26d3c724", func := "loop.example/g00975/laws.FnExactEnough", spec := "fnExactEnough", apart := false }
def FnExactEnoughSaid : Prop := fnExactEnoughRow.holds Try.pinned (OpenSpec.ofChange fnExactEnoughSpec)

/-- ITS FALSE NEIGHBOUR: 'it returns false'. Refute it at one input. -/
def fnExactEnoughWrong : ChangeSpec := { name := "fnExactEnough", fn := fun _ => fun
  | [d1, d2] => { results := [.lit (.bool false)], args := [d1, d2] }
  | _ => none }
def FnExactEnoughWrongFalsely : Prop := fnExactEnoughRow.holds Try.pinned (OpenSpec.ofChange fnExactEnoughWrong)

/-- 'laws.FnExactBrought': WHATEVER THE INPUT: true; the input reads as it did. -/
def fnExactBroughtSpec : ChangeSpec := { name := "fnExactBrought", fn := fun _ => fun
  | [d1, d2, d3] => { results := [.lit (.bool true)], args := [d1, d2, d3] }
  | _ => none }
def fnExactBroughtRow : OpenClaim := { program := "ytnaffepjmnlfeaa", sum := "dc79c35afc25f663164c483e380dc70b18747137900b28da29f8b56f26d3c724", func := "loop.example/g00975/laws.FnExactBrought", spec := "fnExactBrought", apart := false }
def FnExactBroughtSaid : Prop := fnExactBroughtRow.holds Try.pinned (OpenSpec.ofChange fnExactBroughtSpec)

/-- ITS FALSE NEIGHBOUR: 'it returns false'. Refute it at one input. -/
def fnExactBroughtWrong : ChangeSpec := { name := "fnExactBrought", fn := fun _ => fun
  | [d1, d2, d3] => { results := [.lit (.bool false)], args := [d1, d2, d3] }
  | _ => none }
def FnExactBroughtWrongFalsely : Prop := fnExactBroughtRow.holds Try.pinned (OpenSpec.ofChange fnExactBroughtWrong)

/-- 'laws.FnExactBothRights': WHATEVER THE INPUT: true; the input reads as it did. -/
def fnExactBothRightsSpec : ChangeSpec := { name := "fnExactBothRights", fn := fun _ => fun
  | [d1, d2] => { results := [.lit (.bool true)], args := [d1, d2] }
  | _ => none }
def fnExactBothRightsRow : OpenClaim := { program := "ytnaffepjmnlfeaa", sum := "dc79c35afc25f663164c483e380dc70b18747137900b28da29f8b56f26d3c724", func := "loop.example/g00975/laws.FnExactBothRights", spec := "fnExactBothRights", apart := false }
def FnExactBothRightsSaid : Prop := fnExactBothRightsRow.holds Try.pinned (OpenSpec.ofChange fnExactBothRightsSpec)

/-- ITS FALSE NEIGHBOUR: 'it returns false'. Refute it at one input. -/
def fnExactBothRightsWrong : ChangeSpec := { name := "fnExactBothRights", fn := fun _ => fun
  | [d1, d2] => { results := [.lit (.bool false)], args := [d1, d2] }
  | _ => none }
def FnExactBothRightsWrongFalsely : Prop := fnExactBothRightsRow.holds Try.pinned (OpenSpec.ofChange fnExactBothRightsWrong)

/-- 'laws.FnExactSlotOk': WHATEVER THE INPUT: true; the input reads as it did. -/
def fnExactSlotOkSpec : ChangeSpec := { name := "fnExactSlotOk", fn := fun _ => fun
  | [d1, d2] => { results := [.lit (.bool true)], args := [d1, d2] }
  | _ => none }
def fnExactSlotOkRow : OpenClaim := { program := "ytnaffepjmnlfeaa", sum := "dc79c35afc25f663164c483e380dc70b18747137900b28da29f8b56f26d3c724", func := "loop.example/g00975/laws.FnExactSlotOk", spec := "fnExactSlotOk", apart := false }
def FnExactSlotOkSaid : Prop := fnExactSlotOkRow.holds Try.pinned (OpenSpec.ofChange fnExactSlotOkSpec)

/-- ITS FALSE NEIGHBOUR: 'it returns false'. Refute it at one input. -/
def fnExactSlotOkWrong : ChangeSpec := { name := "fnExactSlotOk", fn := fun _ => fun
  | [d1, d2] => { results := [.lit (.bool false)], args := [d1, d2] }
  | _ => none }
def FnExactSlotOkWrongFalsely : Prop := fnExactSlotOkRow.holds Try.pinned (OpenSpec.ofChange fnExactSlotOkWrong)

/-- 'laws.FnExactRightsText': WHATEVER THE INPUT: true; the input reads as it did. -/
def fnExactRightsTextSpec : ChangeSpec := { name := "fnExactRightsText", fn := fun _ => fun
  | [d] => { results := [.lit (.bool true)], args := [d] }
  | _ => none }
def fnExactRightsTextRow : OpenClaim := { program := "ytnaffepjmnlfeaa", sum := "dc79c35afc25f663164c483e380dc70b18747137900b28da29f8b56f26d3c724", func := "loop.example/g00975/laws.FnExactRightsText", spec := "fnExactRightsText", apart := false }
def FnExactRightsTextSaid : Prop := fnExactRightsTextRow.holds Try.pinned (OpenSpec.ofChange fnExactRightsTextSpec)

/-- ITS FALSE NEIGHBOUR: 'it returns false'. Refute it at one input. -/
def fnExactRightsTextWrong : ChangeSpec := { name := "fnExactRightsText", fn := fun _ => fun
  | [d] => { results := [.lit (.bool false)], args := [d] }
  | _ => none }
def FnExactRightsTextWrongFalsely : Prop := fnExactRightsTextRow.holds Try.pinned (OpenSpec.ofChange fnExactRightsTextWrong)

/-- 'laws.FnExactBelow': WHATEVER THE INPUT: true; the input reads as it did. -/
def fnExactBelowSpec : ChangeSpec := { name := "fnExactBelow", fn := fun _ => fun
  | [d1, d2] => { results := [.lit (.bool true)], args := [d1, d2] }
  | _ => none }
def fnExactBelowRow : OpenClaim := { program := "ytnaffepjmnlfeaa", sum := "dc79c35afc25f663164c483e380dc70b18747137900b28da29f8b56f26d3c724", func := "loop.example/g00975/laws.FnExactBelow", spec := "fnExactBelow", apart := false }
def FnExactBelowSaid : Prop := fnExactBelowRow.holds Try.pinned (OpenSpec.ofChange fnExactBelowSpec)

/-- ITS FALSE NEIGHBOUR: 'it returns false'. Refute it at one input. -/
def fnExactBelowWrong : ChangeSpec := { name := "fnExactBelow", fn := fun _ => fun
  | [d1, d2] => { results := [.lit (.bool false)], args := [d1, d2] }
  | _ => none }
def FnExactBelowWrongFalsely : Prop := fnExactBelowRow.holds Try.pinned (OpenSpec.ofChange fnExactBelowWrong)

/- THE SECOND FORM. 'bulk': how many values and letters a reading holds, each counted each time it is reached (what is shared counts as often as it is met; a slice's spare places count too). A statement '..UptoSaid' is the law's where the arguments, and the package variables that the reading takes, are together of bulk at most 1048576: NARROWER than '..Said'. Prove '..Said' where nothing that the law and all that it calls make is longer than what came in: it says more and counts as full. Else prove '..UptoSaid'. A law counts once. -/
mutual
def uptoBulk {H : Type} : DataW H → Nat
  | .lit (.string bytes) => bytes.length + 1
  | .lit _ => 1
  | .nil => 1
  | .ptr d => uptoBulk d + 1
  | .slice elems spare => uptoBulkAll elems + uptoBulkAll spare + 1
  | .agg parts => uptoBulkAll parts + 1
  | .iface _ d => uptoBulk d + 1
  | .map entries => uptoBulkEntries entries + 1
  | .held _ => 1
def uptoBulkAll {H : Type} : List (DataW H) → Nat
  | [] => 0
  | d :: r => uptoBulk d + uptoBulkAll r
def uptoBulkEntries {H : Type} : List (Lit × DataW H) → Nat
  | [] => 0
  | x :: r => uptoBulkEntry x + uptoBulkEntries r
def uptoBulkEntry {H : Type} : Lit × DataW H → Nat
  | (.string bytes, d) => bytes.length + uptoBulk d + 1
  | (_, d) => uptoBulk d + 1
 end
def uptoSmall : (H : Type) → List (DataW H) → Bool := fun _ ds => decide (uptoBulkAll ds ≤ 1048576)
def OpenSpec.upto (s : _root_.Go.ChangeSpec) : _root_.Go.OpenSpec := { _root_.Go.OpenSpec.ofChange s with cond := some uptoSmall }

/-- 'laws.FnExactConstants', WHERE WHAT IT READS IS OF BULK AT MOST 1048576: true; the input reads as it did. -/
def fnExactConstantsUptoRow : OpenClaim := { program := "ytnaffepjmnlfeaa", sum := "dc79c35afc25f663164c483e380dc70b18747137900b28da29f8b56f26d3c724", func := "loop.example/g00975/laws.FnExactConstants", spec := "fnExactConstants", apart := false, narrowed := true }
def FnExactConstantsUptoSaid : Prop := fnExactConstantsUptoRow.holds Try.pinned (OpenSpec.upto fnExactConstantsSpec)

/-- 'laws.FnExactRightsOk', WHERE WHAT IT READS IS OF BULK AT MOST 1048576: true; the input reads as it did. -/
def fnExactRightsOkUptoRow : OpenClaim := { program := "ytnaffepjmnlfeaa", sum := "dc79c35afc25f663164c483e380dc70b18747137900b28da29f8b56f26d3c724", func := "loop.example/g00975/laws.FnExactRightsOk", spec := "fnExactRightsOk", apart := false, narrowed := true }
def FnExactRightsOkUptoSaid : Prop := fnExactRightsOkUptoRow.holds Try.pinned (OpenSpec.upto fnExactRightsOkSpec)

/-- 'laws.FnExactAddrCell', WHERE WHAT IT READS IS OF BULK AT MOST 1048576: true; the input reads as it did. -/
def fnExactAddrCellUptoRow : OpenClaim := { program := "ytnaffepjmnlfeaa", sum := "dc79c35afc25f663164c483e380dc70b18747137900b28da29f8b56f26d3c724", func := "loop.example/g00975/laws.FnExactAddrCell", spec := "fnExactAddrCell", apart := false, narrowed := true }
def FnExactAddrCellUptoSaid : Prop := fnExactAddrCellUptoRow.holds Try.pinned (OpenSpec.upto fnExactAddrCellSpec)

/-- 'laws.FnExactAddrPage', WHERE WHAT IT READS IS OF BULK AT MOST 1048576: true; the input reads as it did. -/
def fnExactAddrPageUptoRow : OpenClaim := { program := "ytnaffepjmnlfeaa", sum := "dc79c35afc25f663164c483e380dc70b18747137900b28da29f8b56f26d3c724", func := "loop.example/g00975/laws.FnExactAddrPage", spec := "fnExactAddrPage", apart := false, narrowed := true }
def FnExactAddrPageUptoSaid : Prop := fnExactAddrPageUptoRow.holds Try.pinned (OpenSpec.upto fnExactAddrPageSpec)

/-- 'laws.FnExactNeedOf', WHERE WHAT IT READS IS OF BULK AT MOST 1048576: true; the input reads as it did. -/
def fnExactNeedOfUptoRow : OpenClaim := { program := "ytnaffepjmnlfeaa", sum := "dc79c35afc25f663164c483e380dc70b18747137900b28da29f8b56f26d3c724", func := "loop.example/g00975/laws.FnExactNeedOf", spec := "fnExactNeedOf", apart := false, narrowed := true }
def FnExactNeedOfUptoSaid : Prop := fnExactNeedOfUptoRow.holds Try.pinned (OpenSpec.upto fnExactNeedOfSpec)

/-- 'laws.FnExactNoSlot', WHERE WHAT IT READS IS OF BULK AT MOST 1048576: true; the input reads as it did. -/
def fnExactNoSlotUptoRow : OpenClaim := { program := "ytnaffepjmnlfeaa", sum := "dc79c35afc25f663164c483e380dc70b18747137900b28da29f8b56f26d3c724", func := "loop.example/g00975/laws.FnExactNoSlot", spec := "fnExactNoSlot", apart := false, narrowed := true }
def FnExactNoSlotUptoSaid : Prop := fnExactNoSlotUptoRow.holds Try.pinned (OpenSpec.upto fnExactNoSlotSpec)

/-- 'laws.FnExactEnough', WHERE WHAT IT READS IS OF BULK AT MOST 1048576: true; the input reads as it did. -/
def fnExactEnoughUptoRow : OpenClaim := { program := "ytnaffepjmnlfeaa", sum := "dc79c35afc25f663164c483e380dc70b18747137900b28da29f8b56f26d3c724", func := "loop.example/g00975/laws.FnExactEnough", spec := "fnExactEnough", apart := false, narrowed := true }
def FnExactEnoughUptoSaid : Prop := fnExactEnoughUptoRow.holds Try.pinned (OpenSpec.upto fnExactEnoughSpec)

/-- 'laws.FnExactBrought', WHERE WHAT IT READS IS OF BULK AT MOST 1048576: true; the input reads as it did. -/
def fnExactBroughtUptoRow : OpenClaim := { program := "ytnaffepjmnlfeaa", sum := "dc79c35afc25f663164c483e380dc70b18747137900b28da29f8b56f26d3c724", func := "loop.example/g00975/laws.FnExactBrought", spec := "fnExactBrought", apart := false, narrowed := true }
def FnExactBroughtUptoSaid : Prop := fnExactBroughtUptoRow.holds Try.pinned (OpenSpec.upto fnExactBroughtSpec)

/-- 'laws.FnExactBothRights', WHERE WHAT IT READS IS OF BULK AT MOST 1048576: true; the input reads as it did. -/
def fnExactBothRightsUptoRow : OpenClaim := { program := "ytnaffepjmnlfeaa", sum := "dc79c35afc25f663164c483e380dc70b18747137900b28da29f8b56f26d3c724", func := "loop.example/g00975/laws.FnExactBothRights", spec := "fnExactBothRights", apart := false, narrowed := true }
def FnExactBothRightsUptoSaid : Prop := fnExactBothRightsUptoRow.holds Try.pinned (OpenSpec.upto fnExactBothRightsSpec)

/-- 'laws.FnExactSlotOk', WHERE WHAT IT READS IS OF BULK AT MOST 1048576: true; the input reads as it did. -/
def fnExactSlotOkUptoRow : OpenClaim := { program := "ytnaffepjmnlfeaa", sum := "dc79c35afc25f663164c483e380dc70b18747137900b28da29f8b56f26d3c724", func := "loop.example/g00975/laws.FnExactSlotOk", spec := "fnExactSlotOk", apart := false, narrowed := true }
def FnExactSlotOkUptoSaid : Prop := fnExactSlotOkUptoRow.holds Try.pinned (OpenSpec.upto fnExactSlotOkSpec)

/-- 'laws.FnExactRightsText', WHERE WHAT IT READS IS OF BULK AT MOST 1048576: true; the input reads as it did. -/
def fnExactRightsTextUptoRow : OpenClaim := { program := "ytnaffepjmnlfeaa", sum := "dc79c35afc25f663164c483e380dc70b18747137900b28da29f8b56f26d3c724", func := "loop.example/g00975/laws.FnExactRightsText", spec := "fnExactRightsText", apart := false, narrowed := true }
def FnExactRightsTextUptoSaid : Prop := fnExactRightsTextUptoRow.holds Try.pinned (OpenSpec.upto fnExactRightsTextSpec)

/-- 'laws.FnExactBelow', WHERE WHAT IT READS IS OF BULK AT MOST 1048576: true; the input reads as it did. -/
def fnExactBelowUptoRow : OpenClaim := { program := "ytnaffepjmnlfeaa", sum := "dc79c35afc25f663164c483e380dc70b18747137900b28da29f8b56f26d3c724", func := "loop.example/g00975/laws.FnExactBelow", spec := "fnExactBelow", apart := false, narrowed := true }
def FnExactBelowUptoSaid : Prop := fnExactBelowUptoRow.holds Try.pinned (OpenSpec.upto fnExactBelowSpec)

end Rows
end Go.Proofs.Ytnaffepjmnlfeaa
