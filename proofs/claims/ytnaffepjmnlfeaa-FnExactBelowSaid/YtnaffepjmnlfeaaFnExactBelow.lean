/- The law FnExactBelow returns true for every input: the program's Below answers as the reference's. No condition. -/
import Derived.Test.YtnaffepjmnlfeaaRows
import Derived.Test.YtnaffepjmnlfeaaSlot
import Derived.WalkKit
import Derived.ProofKit
import Derived.OpenShut
import Derived.ShutString
import Derived.ChangeOld
import Derived.Below
import Derived.Handy
import Derived.Carry
import Derived.Lib.SmallJoins
import Derived.WalkLawsBesides
import Derived.WalkSpells
import Derived.BigQuiet
import Derived.Deep.QuietTactic
namespace Go.Proofs.Ytnaffepjmnlfeaa.fnExactBelow
open Go.ChangeShapes Go.WideShapes Go.ChangeAt Go.RowKit
open Go.ChangeMaps (open_string shut_string)
set_option linter.unusedVariables false

set_option maxHeartbeats 1000000 in
theorem walk (a b c d : Int) (w : World) (wa : (Lit.int .i64 a).wf = true) (wb : (Lit.int .i64 b).wf = true) (wc : (Lit.int .i64 c).wf = true) (wd : (Lit.int .i64 d).wf = true) :
    Calls Try.prog 14 #[.agg #[.int .i64 a, .int .i64 b], .agg #[.int .i64 c, .int .i64 d]] w fun e w' => e = .returned (.bool true) ∧ Below w.heap.size w w' := by
  clear wa wb wc wd
  go_enter Try.func14, Try.ntmps14
  go_wp2_with fail
  obtain ⟨v, hv⟩ : ∃ v : World, v = (w.alloc (Obj.cells #[Value.int IntKind.i64 a, Value.int IntKind.i64 b] 35)).alloc (Obj.cells #[Value.int IntKind.i64 c, Value.int IntKind.i64 d] 35) := ⟨_, rfl⟩
  have hb0 : Below w.heap.size w v := by rw [hv]; exact ((Below.refl _ _).alloc (Nat.le_refl _) _).alloc (by simp) _
  have hz : w.heap.size + 2 = v.heap.size := by rw [hv]; simp
  have d0 : v.cell? ⟨w.heap.size, 0, none⟩ = some (.int .i64 a) := by rw [hv]; simp [go_sem]
  have d1 : v.cell? ⟨w.heap.size, 1, none⟩ = some (.int .i64 b) := by rw [hv]; simp [go_sem]
  have d2 : v.cell? ⟨w.heap.size + 1, 0, none⟩ = some (.int .i64 c) := by rw [hv]; simp [go_sem]
  have d3 : v.cell? ⟨w.heap.size + 1, 1, none⟩ = some (.int .i64 d) := by rw [hv]; simp [go_sem]
  rw [← hv]
  clear hv
  have hz' : w.heap.size + 1 < v.heap.size := by omega
  clear hz
  have c0 : ∀ x : Ext v, x.w.cell? ⟨w.heap.size, 0, none⟩ = some (.int .i64 a) := fun x => (x.cell (by simp; omega)).trans d0
  have c1 : ∀ x : Ext v, x.w.cell? ⟨w.heap.size, 1, none⟩ = some (.int .i64 b) := fun x => (x.cell (by simp; omega)).trans d1
  have c2 : ∀ x : Ext v, x.w.cell? ⟨w.heap.size + 1, 0, none⟩ = some (.int .i64 c) := fun x => (x.cell (by simp; omega)).trans d2
  have c3 : ∀ x : Ext v, x.w.cell? ⟨w.heap.size + 1, 1, none⟩ = some (.int .i64 d) := fun x => (x.cell (by simp; omega)).trans d3
  refine wp_region_ext (by kernel_rfl) (by kernel_rfl) ?_
  repeat (go_big_quiet_step (first | (go_at_call 33; exact Ext.call _ (toSlot_c _ _ _)) | (go_at_call 37; exact Ext.call _ (sBelow_c _ _ _ _ _))))
  refine wpQuiet_nil ?_
  intro w1 hw'
  have hb1 := Ext.out hw'
  clear hw' c0 c1 c2 c3
  have e0 := (hb1.cell (p := ⟨w.heap.size, 0, none⟩) (by simp; omega)).trans d0
  have e1 := (hb1.cell (p := ⟨w.heap.size, 1, none⟩) (by simp; omega)).trans d1
  have e2 := (hb1.cell (p := ⟨w.heap.size + 1, 0, none⟩) (by simp; omega)).trans d2
  have e3 := (hb1.cell (p := ⟨w.heap.size + 1, 1, none⟩) (by simp; omega)).trans d3
  clear d0 d1 d2 d3
  have hs1 := hb1.size
  have hy : w.heap.size + 1 < w1.heap.size := by omega
  have hbb : Below w.heap.size w w1 := hb0.trans (hb1.mono (by omega))
  clear hb0 hb1 hs1 hz'
  go_wp2_with fail
  have c0 : ∀ x : Ext w1, x.w.cell? ⟨w.heap.size, 0, none⟩ = some (.int .i64 a) := fun x => (x.cell (by simp; omega)).trans e0
  have c1 : ∀ x : Ext w1, x.w.cell? ⟨w.heap.size, 1, none⟩ = some (.int .i64 b) := fun x => (x.cell (by simp; omega)).trans e1
  have c2 : ∀ x : Ext w1, x.w.cell? ⟨w.heap.size + 1, 0, none⟩ = some (.int .i64 c) := fun x => (x.cell (by simp; omega)).trans e2
  have c3 : ∀ x : Ext w1, x.w.cell? ⟨w.heap.size + 1, 1, none⟩ = some (.int .i64 d) := fun x => (x.cell (by simp; omega)).trans e3
  refine wp_region_ext (by kernel_rfl) (by kernel_rfl) ?_
  repeat (go_big_quiet_step (first | (go_at_call 33; exact Ext.call _ (toSlot_c _ _ _)) | (go_at_call 38; exact Ext.call _ (iBelow_c _ _ _ _ _))))
  refine wpQuiet_nil ?_
  intro w2 hw'
  have hb2 := Ext.out hw'
  clear hw' c0 c1 c2 c3
  go_wp2
  go_ret
  exact ⟨rfl, hbb.trans (hb2.mono (by omega))⟩

/-! ### The row's step -/
theorem own : ownKnob Try.prog.godebug = none := by kernel_rfl
theorem laidOut : laidOutB Try.prog = true := by kernel_rfl
set_option maxRecDepth 100000 in
theorem lifted (os : Os) (started : os.Started) (H : Type) (enc : TypeId × Value → H) :
    ReturnsInHanded {} Try.checked os 14 .any (Rows.fnExactBelowSpec.pre6 enc Try.prog Try.f14 Rows.fnExactBelowRow.domain false) (Rows.fnExactBelowSpec.post enc Try.prog Try.f14 false true false false) := by
  refine returnsInHanded_of_change (C := Try.checked) own started (by kernel_rfl) Try.func14
    (ChangeSpec.witness6 (enc := enc) (C := Try.checked) false ⟨#[], #[.agg #[.int .i64 0, .int .i64 0], .agg #[.int .i64 0, .int .i64 0]], []⟩ 8 (by kernel_rfl) (by kernel_rfl) (by kernel_rfl) (by kernel_rfl)) ?_
  intro W base args ds gs before hval0 hW hcnd _
  have hval : ∀ (j : Nat) t v, Try.f14.params[j]? = some t → args[j]? = some v → Value.okWide Try.prog W .any base t v := hval0
  have hW' := hW
  obtain ⟨p, q, hA0, hV, rfl, hfz, hnd⟩ := hW
  have hA : DataW.TrodAll enc Try.prog W 0 (fun _ => true) true Try.f14.params.toList args.toList ds p := hA0
  rw [Try.params14] at hA hval
  obtain ⟨v0, vs0, d0, ds0, p0, q0, hargs, rfl, rfl, h0, r0⟩ := trodAll_cons hA
  obtain ⟨v1, vs1, d1, ds1, p1, q1, rfl, rfl, rfl, h1, r1⟩ := trodAll_cons r0
  obtain ⟨rfl, rfl, rfl⟩ := trodAll_nil r1
  obtain rfl : args = #[v0, v1] := by cases args; simp_all
  obtain ⟨rfl, rfl⟩ := trodVars_none hV
  have k0 := h0
  have lt0 : ∀ x ∈ p0, x.block < W.heap.size := by obtain ⟨m, hm⟩ := k0; exact DataW.trod_lt m _ _ _ hm
  obtain ⟨c0, e0, y0, z0, n0, rfl, rfl, rfl, hy0, hz0⟩ := Go.Joins.open_agg2 Try.underlying35 (by kernel_rfl) (by kernel_rfl) (hval 0 35 v0 rfl rfl) h0
  obtain ⟨a0, he0, rfl, w0⟩ := DataW.trod_int Try.underlying3 hy0
  obtain ⟨b0, hf0, rfl, u0⟩ := DataW.trod_int Try.underlying3 hz0
  simp at he0 hf0
  subst he0 hf0
  have k1 := h1
  have lt1 : ∀ x ∈ p1, x.block < W.heap.size := by obtain ⟨m, hm⟩ := k1; exact DataW.trod_lt m _ _ _ hm
  obtain ⟨c1, e1, y1, z1, n1, rfl, rfl, rfl, hy1, hz1⟩ := Go.Joins.open_agg2 Try.underlying35 (by kernel_rfl) (by kernel_rfl) (hval 1 35 v1 rfl rfl) h1
  obtain ⟨a1, he1, rfl, w1⟩ := DataW.trod_int Try.underlying3 hy1
  obtain ⟨b1, hf1, rfl, u1⟩ := DataW.trod_int Try.underlying3 hz1
  simp at he1 hf1
  subst he1 hf1
  clear hA0 hval0
  refine (walk a0 b0 a1 b1 W w0 u0 w1 u1).mono fun e W' ⟨he, bel⟩ => ?_
  subst he
  exact ⟨_, rfl, _, _, _, [], _, [], hW', trodAll_mk1 (shut_bool Try.underlying4 _), (trodAll_cons_mk (Below.trod laidOut (by kernel_rfl) (of_decide_eq_true (by kernel_rfl)) k0 bel lt0) (trodAll_cons_mk (Below.trod laidOut (by kernel_rfl) (of_decide_eq_true (by kernel_rfl)) k1 bel lt1) trodAll_mk0)), rfl, bel.frame _, fun h => by cases h⟩

theorem over : Rows.fnExactBelowRow.holds Try.pinned (OpenSpec.ofChange Rows.fnExactBelowSpec) :=
  OpenClaim.holds_of_wide 14 Try.f14 rfl rfl rfl rfl rfl rfl rfl ⟨rfl, rfl, rfl, rfl, rfl⟩ rfl rfl rfl rfl rfl (by kernel_rfl) Try.func14 (by kernel_rfl)
    (of_decide_eq_true (by kernel_rfl)) (by unfold Func.isWrapper; first | (rw [if_pos (by decide +kernel)]; kernel_rfl) | (rw [if_neg (by decide +kernel)]; exact ⟨rfl, rfl⟩))
    (fun os started H enc _ => lifted os started H enc)

/-- The statement. -/
theorem proved : Rows.FnExactBelowSaid := over
#print axioms proved
end Go.Proofs.Ytnaffepjmnlfeaa.fnExactBelow
