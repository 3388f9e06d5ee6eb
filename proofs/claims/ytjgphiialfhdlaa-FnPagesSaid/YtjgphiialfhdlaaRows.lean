/-
  No cell of these rows narrows 'for every input' (looked for: loops, veiled, ifaces, maps, wideKeys, modest, calm, conditions, laid).
  DERIVED. THE GIVEN ROWS OF THIS SEAT. 12 by the template 'for every input the law returns true; each argument reads behind the call as it read before'; 0 by the template 'total and deterministic' (their statements: YtjgphiialfhdlaaTotals.lean).
  GIVEN WITH THE SEED: the statements are not yours to turn. If you find one false, say at which input.
  Laid BY PROGRAM, IN A SANDBOX (cutbox-rows.mjs): the forced cells as the released guide's own fill.sh prints them over the translation 9ecc3d257d2c15fb… (all of the seat's roots in one cut). By AI agents, Wed Nov 11 2026. No macro, syntax, notation, axiom, sorry.
-/
import Derived.Test.YtjgphiialfhdlaaChecked
import GoSem.Claim
import GoSem.ClaimJoined
import GoSem.ClaimMapViews
import Derived.JoinedTies
import Derived.KernelRfl
namespace Go.Proofs.Ytjgphiialfhdlaa
/- THE CELL 'sum', in the pinned program and in every row, IS THE sha256 OF THE DUMP (.gsa) THAT YtjgphiialfhdlaaProg.lean LOADS. Nothing in Lean hashes anything: it is a label: what it is worth is what the hold of that sum in a sandbox is worth. -/
noncomputable def Try.pinned : Pinned := { name := "ytjgphiialfhdlaa", sum := "9ecc3d257d2c15fbc48becbd55652fe0bdfda275c6bff250ea0a459ffb2095f5", checked := Try.checked }
namespace Rows
def none {H : Type} : Left H := { results := [], args := [] }

/-- 'laws.FnExactPageOk': WHATEVER THE INPUT: true; the input reads as it did. -/
def fnExactPageOkSpec : ChangeSpec := { name := "fnExactPageOk", fn := fun _ => fun
  | [d] => { results := [.lit (.bool true)], args := [d] }
  | _ => none }
def fnExactPageOkRow : OpenClaim := { program := "ytjgphiialfhdlaa", sum := "9ecc3d257d2c15fbc48becbd55652fe0bdfda275c6bff250ea0a459ffb2095f5", func := "loop.example/g00975/laws.FnExactPageOk", spec := "fnExactPageOk", apart := false }
def FnExactPageOkSaid : Prop := fnExactPageOkRow.holds Try.pinned (OpenSpec.ofChange fnExactPageOkSpec)

/-- ITS FALSE NEIGHBOUR: 'it returns false'. Refute it at one input. -/
def fnExactPageOkWrong : ChangeSpec := { name := "fnExactPageOk", fn := fun _ => fun
  | [d] => { results := [.lit (.bool false)], args := [d] }
  | _ => none }
def FnExactPageOkWrongFalsely : Prop := fnExactPageOkRow.holds Try.pinned (OpenSpec.ofChange fnExactPageOkWrong)

/-- 'laws.FnExactMemOk': WHATEVER THE INPUT: true; the input reads as it did. -/
def fnExactMemOkSpec : ChangeSpec := { name := "fnExactMemOk", fn := fun _ => fun
  | [d1, d2] => { results := [.lit (.bool true)], args := [d1, d2] }
  | _ => none }
def fnExactMemOkRow : OpenClaim := { program := "ytjgphiialfhdlaa", sum := "9ecc3d257d2c15fbc48becbd55652fe0bdfda275c6bff250ea0a459ffb2095f5", func := "loop.example/g00975/laws.FnExactMemOk", spec := "fnExactMemOk", apart := false }
def FnExactMemOkSaid : Prop := fnExactMemOkRow.holds Try.pinned (OpenSpec.ofChange fnExactMemOkSpec)

/-- ITS FALSE NEIGHBOUR: 'it returns false'. Refute it at one input. -/
def fnExactMemOkWrong : ChangeSpec := { name := "fnExactMemOk", fn := fun _ => fun
  | [d1, d2] => { results := [.lit (.bool false)], args := [d1, d2] }
  | _ => none }
def FnExactMemOkWrongFalsely : Prop := fnExactMemOkRow.holds Try.pinned (OpenSpec.ofChange fnExactMemOkWrong)

/-- 'laws.FnExactMemNew': WHATEVER THE INPUT: true; the input reads as it did. -/
def fnExactMemNewSpec : ChangeSpec := { name := "fnExactMemNew", fn := fun _ => fun
  | [d] => { results := [.lit (.bool true)], args := [d] }
  | _ => none }
def fnExactMemNewRow : OpenClaim := { program := "ytjgphiialfhdlaa", sum := "9ecc3d257d2c15fbc48becbd55652fe0bdfda275c6bff250ea0a459ffb2095f5", func := "loop.example/g00975/laws.FnExactMemNew", spec := "fnExactMemNew", apart := false }
def FnExactMemNewSaid : Prop := fnExactMemNewRow.holds Try.pinned (OpenSpec.ofChange fnExactMemNewSpec)

/-- ITS FALSE NEIGHBOUR: 'it returns false'. Refute it at one input. -/
def fnExactMemNewWrong : ChangeSpec := { name := "fnExactMemNew", fn := fun _ => fun
  | [d] => { results := [.lit (.bool false)], args := [d] }
  | _ => none }
def FnExactMemNewWrongFalsely : Prop := fnExactMemNewRow.holds Try.pinned (OpenSpec.ofChange fnExactMemNewWrong)

/-- 'laws.FnExactCellAt': WHATEVER THE INPUT: true; the input reads as it did. -/
def fnExactCellAtSpec : ChangeSpec := { name := "fnExactCellAt", fn := fun _ => fun
  | [d1, d2, d3] => { results := [.lit (.bool true)], args := [d1, d2, d3] }
  | _ => none }
def fnExactCellAtRow : OpenClaim := { program := "ytjgphiialfhdlaa", sum := "9ecc3d257d2c15fbc48becbd55652fe0bdfda275c6bff250ea0a459ffb2095f5", func := "loop.example/g00975/laws.FnExactCellAt", spec := "fnExactCellAt", apart := false }
def FnExactCellAtSaid : Prop := fnExactCellAtRow.holds Try.pinned (OpenSpec.ofChange fnExactCellAtSpec)

/-- ITS FALSE NEIGHBOUR: 'it returns false'. Refute it at one input. -/
def fnExactCellAtWrong : ChangeSpec := { name := "fnExactCellAt", fn := fun _ => fun
  | [d1, d2, d3] => { results := [.lit (.bool false)], args := [d1, d2, d3] }
  | _ => none }
def FnExactCellAtWrongFalsely : Prop := fnExactCellAtRow.holds Try.pinned (OpenSpec.ofChange fnExactCellAtWrong)

/-- 'laws.FnExactWithCell': WHATEVER THE INPUT: true; the input reads as it did. -/
def fnExactWithCellSpec : ChangeSpec := { name := "fnExactWithCell", fn := fun _ => fun
  | [d1, d2, d3, d4] => { results := [.lit (.bool true)], args := [d1, d2, d3, d4] }
  | _ => none }
def fnExactWithCellRow : OpenClaim := { program := "ytjgphiialfhdlaa", sum := "9ecc3d257d2c15fbc48becbd55652fe0bdfda275c6bff250ea0a459ffb2095f5", func := "loop.example/g00975/laws.FnExactWithCell", spec := "fnExactWithCell", apart := false }
def FnExactWithCellSaid : Prop := fnExactWithCellRow.holds Try.pinned (OpenSpec.ofChange fnExactWithCellSpec)

/-- ITS FALSE NEIGHBOUR: 'it returns false'. Refute it at one input. -/
def fnExactWithCellWrong : ChangeSpec := { name := "fnExactWithCell", fn := fun _ => fun
  | [d1, d2, d3, d4] => { results := [.lit (.bool false)], args := [d1, d2, d3, d4] }
  | _ => none }
def FnExactWithCellWrongFalsely : Prop := fnExactWithCellRow.holds Try.pinned (OpenSpec.ofChange fnExactWithCellWrong)

/-- 'laws.FnExactPageAt': WHATEVER THE INPUT: true; the input reads as it did. -/
def fnExactPageAtSpec : ChangeSpec := { name := "fnExactPageAt", fn := fun _ => fun
  | [d1, d2] => { results := [.lit (.bool true)], args := [d1, d2] }
  | _ => none }
def fnExactPageAtRow : OpenClaim := { program := "ytjgphiialfhdlaa", sum := "9ecc3d257d2c15fbc48becbd55652fe0bdfda275c6bff250ea0a459ffb2095f5", func := "loop.example/g00975/laws.FnExactPageAt", spec := "fnExactPageAt", apart := false }
def FnExactPageAtSaid : Prop := fnExactPageAtRow.holds Try.pinned (OpenSpec.ofChange fnExactPageAtSpec)

/-- ITS FALSE NEIGHBOUR: 'it returns false'. Refute it at one input. -/
def fnExactPageAtWrong : ChangeSpec := { name := "fnExactPageAt", fn := fun _ => fun
  | [d1, d2] => { results := [.lit (.bool false)], args := [d1, d2] }
  | _ => none }
def FnExactPageAtWrongFalsely : Prop := fnExactPageAtRow.holds Try.pinned (OpenSpec.ofChange fnExactPageAtWrong)

/-- 'laws.FnExactWithPage': WHATEVER THE INPUT: true; the input reads as it did. -/
def fnExactWithPageSpec : ChangeSpec := { name := "fnExactWithPage", fn := fun _ => fun
  | [d1, d2, d3] => { results := [.lit (.bool true)], args := [d1, d2, d3] }
  | _ => none }
def fnExactWithPageRow : OpenClaim := { program := "ytjgphiialfhdlaa", sum := "9ecc3d257d2c15fbc48becbd55652fe0bdfda275c6bff250ea0a459ffb2095f5", func := "loop.example/g00975/laws.FnExactWithPage", spec := "fnExactWithPage", apart := false }
def FnExactWithPageSaid : Prop := fnExactWithPageRow.holds Try.pinned (OpenSpec.ofChange fnExactWithPageSpec)

/-- ITS FALSE NEIGHBOUR: 'it returns false'. Refute it at one input. -/
def fnExactWithPageWrong : ChangeSpec := { name := "fnExactWithPage", fn := fun _ => fun
  | [d1, d2, d3] => { results := [.lit (.bool false)], args := [d1, d2, d3] }
  | _ => none }
def FnExactWithPageWrongFalsely : Prop := fnExactWithPageRow.holds Try.pinned (OpenSpec.ofChange fnExactWithPageWrong)

/-- 'laws.FnExactSameMem': WHATEVER THE INPUT: true; the input reads as it did. -/
def fnExactSameMemSpec : ChangeSpec := { name := "fnExactSameMem", fn := fun _ => fun
  | [d1, d2] => { results := [.lit (.bool true)], args := [d1, d2] }
  | _ => none }
def fnExactSameMemRow : OpenClaim := { program := "ytjgphiialfhdlaa", sum := "9ecc3d257d2c15fbc48becbd55652fe0bdfda275c6bff250ea0a459ffb2095f5", func := "loop.example/g00975/laws.FnExactSameMem", spec := "fnExactSameMem", unfollowed := true, recurses := true, apart := false }
def FnExactSameMemSaid : Prop := fnExactSameMemRow.holds Try.pinned (OpenSpec.ofChange fnExactSameMemSpec)

/-- ITS FALSE NEIGHBOUR: 'it returns false'. Refute it at one input. -/
def fnExactSameMemWrong : ChangeSpec := { name := "fnExactSameMem", fn := fun _ => fun
  | [d1, d2] => { results := [.lit (.bool false)], args := [d1, d2] }
  | _ => none }
def FnExactSameMemWrongFalsely : Prop := fnExactSameMemRow.holds Try.pinned (OpenSpec.ofChange fnExactSameMemWrong)

/-- 'laws.FnWriteCells': WHATEVER THE INPUT: true; the input reads as it did. -/
def fnWriteCellsSpec : ChangeSpec := { name := "fnWriteCells", fn := fun _ => fun
  | [d] => { results := [.lit (.bool true)], args := [d] }
  | _ => none }
def fnWriteCellsRow : OpenClaim := { program := "ytjgphiialfhdlaa", sum := "9ecc3d257d2c15fbc48becbd55652fe0bdfda275c6bff250ea0a459ffb2095f5", func := "loop.example/g00975/laws.FnWriteCells", spec := "fnWriteCells", apart := false }
def FnWriteCellsSaid : Prop := fnWriteCellsRow.holds Try.pinned (OpenSpec.ofChange fnWriteCellsSpec)

/-- ITS FALSE NEIGHBOUR: 'it returns false'. Refute it at one input. -/
def fnWriteCellsWrong : ChangeSpec := { name := "fnWriteCells", fn := fun _ => fun
  | [d] => { results := [.lit (.bool false)], args := [d] }
  | _ => none }
def FnWriteCellsWrongFalsely : Prop := fnWriteCellsRow.holds Try.pinned (OpenSpec.ofChange fnWriteCellsWrong)

/-- 'laws.FnCells': WHATEVER THE INPUT: true; the input reads as it did. -/
def fnCellsSpec : ChangeSpec := { name := "fnCells", fn := fun _ => fun
  | [d] => { results := [.lit (.bool true)], args := [d] }
  | _ => none }
def fnCellsRow : OpenClaim := { program := "ytjgphiialfhdlaa", sum := "9ecc3d257d2c15fbc48becbd55652fe0bdfda275c6bff250ea0a459ffb2095f5", func := "loop.example/g00975/laws.FnCells", spec := "fnCells", apart := false }
def FnCellsSaid : Prop := fnCellsRow.holds Try.pinned (OpenSpec.ofChange fnCellsSpec)

/-- ITS FALSE NEIGHBOUR: 'it returns false'. Refute it at one input. -/
def fnCellsWrong : ChangeSpec := { name := "fnCells", fn := fun _ => fun
  | [d] => { results := [.lit (.bool false)], args := [d] }
  | _ => none }
def FnCellsWrongFalsely : Prop := fnCellsRow.holds Try.pinned (OpenSpec.ofChange fnCellsWrong)

/-- 'laws.FnPages': WHATEVER THE INPUT: true; the input reads as it did. -/
def fnPagesSpec : ChangeSpec := { name := "fnPages", fn := fun _ => fun
  | [d] => { results := [.lit (.bool true)], args := [d] }
  | _ => none }
def fnPagesRow : OpenClaim := { program := "ytjgphiialfhdlaa", sum := "9ecc3d257d2c15fbc48becbd55652fe0bdfda275c6bff250ea0a459ffb2095f5", func := "loop.example/g00975/laws.FnPages", spec := "fnPages", unfollowed := true, recurses := true, apart := false }
def FnPagesSaid : Prop := fnPagesRow.holds Try.pinned (OpenSpec.ofChange fnPagesSpec)

/-- ITS FALSE NEIGHBOUR: 'it returns false'. Refute it at one input. -/
def fnPagesWrong : ChangeSpec := { name := "fnPages", fn := fun _ => fun
  | [d] => { results := [.lit (.bool false)], args := [d] }
  | _ => none }
def FnPagesWrongFalsely : Prop := fnPagesRow.holds Try.pinned (OpenSpec.ofChange fnPagesWrong)

/-- 'laws.FnAddresses': WHATEVER THE INPUT: true; the input reads as it did. -/
def fnAddressesSpec : ChangeSpec := { name := "fnAddresses", fn := fun _ => fun
  | [d] => { results := [.lit (.bool true)], args := [d] }
  | _ => none }
def fnAddressesRow : OpenClaim := { program := "ytjgphiialfhdlaa", sum := "9ecc3d257d2c15fbc48becbd55652fe0bdfda275c6bff250ea0a459ffb2095f5", func := "loop.example/g00975/laws.FnAddresses", spec := "fnAddresses", apart := false }
def FnAddressesSaid : Prop := fnAddressesRow.holds Try.pinned (OpenSpec.ofChange fnAddressesSpec)

/-- ITS FALSE NEIGHBOUR: 'it returns false'. Refute it at one input. -/
def fnAddressesWrong : ChangeSpec := { name := "fnAddresses", fn := fun _ => fun
  | [d] => { results := [.lit (.bool false)], args := [d] }
  | _ => none }
def FnAddressesWrongFalsely : Prop := fnAddressesRow.holds Try.pinned (OpenSpec.ofChange fnAddressesWrong)

/- THE SECOND FORM. 'bulk': how many values and letters a reading holds, each counted each time it is reached (what is shared counts as often as it is met; a slice's spare places count too). A statement '..UptoSaid' is the law's where the arguments, and the package variables that the reading takes, are together of bulk at most 1048576: NARROWER than '..Said'. Prove '..Said' where nothing that the law and all that it calls make is longer than what came in: it says more and counts as full. Else prove '..UptoSaid'. A law counts once. -/
mutual
def uptoBulk {H : Type} : DataW H → Nat
  | .lit (.string bytes) => bytes.length + 1
  | .lit _ => 1
  | .nil => 1
  | .ptr d => uptoBulk d + 1
  | .slice elems spare => uptoBulkAll elems + uptoBulkAll spare + 1
  | .agg parts => uptoBulkAll parts + 1
  | .iface _ d => uptoBulk d + 1
  | .map entries => uptoBulkEntries entries + 1
  | .held _ => 1
def uptoBulkAll {H : Type} : List (DataW H) → Nat
  | [] => 0
  | d :: r => uptoBulk d + uptoBulkAll r
def uptoBulkEntries {H : Type} : List (Lit × DataW H) → Nat
  | [] => 0
  | x :: r => uptoBulkEntry x + uptoBulkEntries r
def uptoBulkEntry {H : Type} : Lit × DataW H → Nat
  | (.string bytes, d) => bytes.length + uptoBulk d + 1
  | (_, d) => uptoBulk d + 1
 end
def uptoSmall : (H : Type) → List (DataW H) → Bool := fun _ ds => decide (uptoBulkAll ds ≤ 1048576)
def OpenSpec.upto (s : _root_.Go.ChangeSpec) : _root_.Go.OpenSpec := { _root_.Go.OpenSpec.ofChange s with cond := some uptoSmall }

/-- 'laws.FnExactPageOk', WHERE WHAT IT READS IS OF BULK AT MOST 1048576: true; the input reads as it did. -/
def fnExactPageOkUptoRow : OpenClaim := { program := "ytjgphiialfhdlaa", sum := "9ecc3d257d2c15fbc48becbd55652fe0bdfda275c6bff250ea0a459ffb2095f5", func := "loop.example/g00975/laws.FnExactPageOk", spec := "fnExactPageOk", apart := false, narrowed := true }
def FnExactPageOkUptoSaid : Prop := fnExactPageOkUptoRow.holds Try.pinned (OpenSpec.upto fnExactPageOkSpec)

/-- 'laws.FnExactMemOk', WHERE WHAT IT READS IS OF BULK AT MOST 1048576: true; the input reads as it did. -/
def fnExactMemOkUptoRow : OpenClaim := { program := "ytjgphiialfhdlaa", sum := "9ecc3d257d2c15fbc48becbd55652fe0bdfda275c6bff250ea0a459ffb2095f5", func := "loop.example/g00975/laws.FnExactMemOk", spec := "fnExactMemOk", apart := false, narrowed := true }
def FnExactMemOkUptoSaid : Prop := fnExactMemOkUptoRow.holds Try.pinned (OpenSpec.upto fnExactMemOkSpec)

/-- 'laws.FnExactMemNew', WHERE WHAT IT READS IS OF BULK AT MOST 1048576: true; the input reads as it did. -/
def fnExactMemNewUptoRow : OpenClaim := { program := "ytjgphiialfhdlaa", sum := "9ecc3d257d2c15fbc48becbd55652fe0bdfda275c6bff250ea0a459ffb2095f5", func := "loop.example/g00975/laws.FnExactMemNew", spec := "fnExactMemNew", apart := false, narrowed := true }
def FnExactMemNewUptoSaid : Prop := fnExactMemNewUptoRow.holds Try.pinned (OpenSpec.upto fnExactMemNewSpec)

/-- 'laws.FnExactCellAt', WHERE WHAT IT READS IS OF BULK AT MOST 1048576: true; the input reads as it did. -/
def fnExactCellAtUptoRow : OpenClaim := { program := "ytjgphiialfhdlaa", sum := "9ecc3d257d2c15fbc48becbd55652fe0bdfda275c6bff250ea0a459ffb2095f5", func := "loop.example/g00975/laws.FnExactCellAt", spec := "fnExactCellAt", apart := false, narrowed := true }
def FnExactCellAtUptoSaid : Prop := fnExactCellAtUptoRow.holds Try.pinned (OpenSpec.upto fnExactCellAtSpec)

/-- 'laws.FnExactWithCell', WHERE WHAT IT READS IS OF BULK AT MOST 1048576: true; the input reads as it did. -/
def fnExactWithCellUptoRow : OpenClaim := { program := "ytjgphiialfhdlaa", sum := "9ecc3d257d2c15fbc48becbd55652fe0bdfda275c6bff250ea0a459ffb2095f5", func := "loop.example/g00975/laws.FnExactWithCell", spec := "fnExactWithCell", apart := false, narrowed := true }
def FnExactWithCellUptoSaid : Prop := fnExactWithCellUptoRow.holds Try.pinned (OpenSpec.upto fnExactWithCellSpec)

/-- 'laws.FnExactPageAt', WHERE WHAT IT READS IS OF BULK AT MOST 1048576: true; the input reads as it did. -/
def fnExactPageAtUptoRow : OpenClaim := { program := "ytjgphiialfhdlaa", sum := "9ecc3d257d2c15fbc48becbd55652fe0bdfda275c6bff250ea0a459ffb2095f5", func := "loop.example/g00975/laws.FnExactPageAt", spec := "fnExactPageAt", apart := false, narrowed := true }
def FnExactPageAtUptoSaid : Prop := fnExactPageAtUptoRow.holds Try.pinned (OpenSpec.upto fnExactPageAtSpec)

/-- 'laws.FnExactWithPage', WHERE WHAT IT READS IS OF BULK AT MOST 1048576: true; the input reads as it did. -/
def fnExactWithPageUptoRow : OpenClaim := { program := "ytjgphiialfhdlaa", sum := "9ecc3d257d2c15fbc48becbd55652fe0bdfda275c6bff250ea0a459ffb2095f5", func := "loop.example/g00975/laws.FnExactWithPage", spec := "fnExactWithPage", apart := false, narrowed := true }
def FnExactWithPageUptoSaid : Prop := fnExactWithPageUptoRow.holds Try.pinned (OpenSpec.upto fnExactWithPageSpec)

/-- 'laws.FnExactSameMem', WHERE WHAT IT READS IS OF BULK AT MOST 1048576: true; the input reads as it did. -/
def fnExactSameMemUptoRow : OpenClaim := { program := "ytjgphiialfhdlaa", sum := "9ecc3d257d2c15fbc48becbd55652fe0bdfda275c6bff250ea0a459ffb2095f5", func := "loop.example/g00975/laws.FnExactSameMem", spec := "fnExactSameMem", unfollowed := true, recurses := true, apart := false, narrowed := true }
def FnExactSameMemUptoSaid : Prop := fnExactSameMemUptoRow.holds Try.pinned (OpenSpec.upto fnExactSameMemSpec)

/-- 'laws.FnWriteCells', WHERE WHAT IT READS IS OF BULK AT MOST 1048576: true; the input reads as it did. -/
def fnWriteCellsUptoRow : OpenClaim := { program := "ytjgphiialfhdlaa", sum := "9ecc3d257d2c15fbc48becbd55652fe0bdfda275c6bff250ea0a459ffb2095f5", func := "loop.example/g00975/laws.FnWriteCells", spec := "fnWriteCells", apart := false, narrowed := true }
def FnWriteCellsUptoSaid : Prop := fnWriteCellsUptoRow.holds Try.pinned (OpenSpec.upto fnWriteCellsSpec)

/-- 'laws.FnCells', WHERE WHAT IT READS IS OF BULK AT MOST 1048576: true; the input reads as it did. -/
def fnCellsUptoRow : OpenClaim := { program := "ytjgphiialfhdlaa", sum := "9ecc3d257d2c15fbc48becbd55652fe0bdfda275c6bff250ea0a459ffb2095f5", func := "loop.example/g00975/laws.FnCells", spec := "fnCells", apart := false, narrowed := true }
def FnCellsUptoSaid : Prop := fnCellsUptoRow.holds Try.pinned (OpenSpec.upto fnCellsSpec)

/-- 'laws.FnPages', WHERE WHAT IT READS IS OF BULK AT MOST 1048576: true; the input reads as it did. -/
def fnPagesUptoRow : OpenClaim := { program := "ytjgphiialfhdlaa", sum := "9ecc3d257d2c15fbc48becbd55652fe0bdfda275c6bff250ea0a459ffb2095f5", func := "loop.example/g00975/laws.FnPages", spec := "fnPages", unfollowed := true, recurses := true, apart := false, narrowed := true }
def FnPagesUptoSaid : Prop := fnPagesUptoRow.holds Try.pinned (OpenSpec.upto fnPagesSpec)

/-- 'laws.FnAddresses', WHERE WHAT IT READS IS OF BULK AT MOST 1048576: true; the input reads as it did. -/
def fnAddressesUptoRow : OpenClaim := { program := "ytjgphiialfhdlaa", sum := "9ecc3d257d2c15fbc48becbd55652fe0bdfda275c6bff250ea0a459ffb2095f5", func := "loop.example/g00975/laws.FnAddresses", spec := "fnAddresses", apart := false, narrowed := true }
def FnAddressesUptoSaid : Prop := fnAddressesUptoRow.holds Try.pinned (OpenSpec.upto fnAddressesSpec)

end Rows
end Go.Proofs.Ytjgphiialfhdlaa
