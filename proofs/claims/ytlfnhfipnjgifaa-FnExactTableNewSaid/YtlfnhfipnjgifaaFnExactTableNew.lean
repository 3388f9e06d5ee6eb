/- The law FnExactTableNew returns true for every input: the program's TableNew answers as the reference's and leaves its arguments alone. No condition. -/
import Derived.Test.YtlfnhfipnjgifaaRows
import Derived.Test.YtlfnhfipnjgifaaOpen
import Derived.Test.YtlfnhfipnjgifaaSl
import Derived.Test.YtlfnhfipnjgifaaRep
import Derived.WalkKit
import Derived.ProofKit
import Derived.OpenShut
import Derived.ShutString
import Derived.ChangeOld
import Derived.Below
import Derived.Handy
import Derived.Carry
import Derived.Lib.SmallJoins
import Derived.WalkLawsBesides
import Derived.WalkSpells
namespace Go.Proofs.Ytlfnhfipnjgifaa.fnExactTableNew
open Go.ChangeShapes Go.WideShapes Go.ChangeAt Go.RowKit
open Go.ChangeMaps (open_string shut_string)
set_option linter.unusedVariables false
set_option linter.unusedSimpArgs false

set_option maxHeartbeats 2000000 in
theorem walk (a0 : Int) (w : World) (w0 : (Lit.int .i64 a0).wf = true) :
    Calls Try.prog 3 #[.int .i64 a0] w fun e w' => e = .returned (.bool true) ∧ Below w.heap.size w w' := by
  have g0 : a0 ≤ 9223372036854775807 := by simp [Lit.wf, IntKind.min, IntKind.max, IntKind.signed, IntKind.bits] at w0; omega
  clear w0
  obtain ⟨k, hk, hk24⟩ := brought24 a0
  have HK := Lib.hid hk
  clear hk
  go_enter Try.func3, Try.ntmps3
  have B0 := Below.refl w.heap.size w
  go_wp2_with fail
  refine (sTableNew_k HK.out _).mono ?_
  rintro e w1 ⟨A_W, c_W, rfl, O_W, hb1⟩
  have Z_W := O_W
  have S1 := hb1.size
  have B1 := B0.trans (hb1.mono B0.size)
  clear hb1 B0
  go_wp2_with fail
  refine (iTableNew_k HK.out _).mono ?_
  rintro e w2 ⟨A_G, c_G, rfl, O_G, hb2⟩
  have Z_G := O_G
  have S2 := hb2.size
  have B2 := B1.trans (hb2.mono B1.size)
  have O_W' := own_kept O_W hb2
  clear O_W
  clear hb2 B1
  go_wp2_with fail
  refine (eqSlotS_t A_G A_W k c_G c_W ((List.replicate k noSlot)) _ (Rd.of_own O_G) (Rd.of_own O_W') (by omega)).mono ?_
  rintro e w3 ⟨rfl, hb3⟩
  have S3 := hb3.size
  have B3 := B2.trans (hb3.mono B2.size)
  have O_W'' := own_kept O_W' hb3
  clear O_W'
  have O_G' := own_kept O_G hb3
  clear O_G
  clear hb3 B2
  go_wp2_with fail
  refine (markSlotS_c A_G k c_G ((List.replicate k noSlot)) 1 _ _ O_G' (by omega) (by omega) (by omega)).mono ?_
  rintro e w4 ⟨rfl, OM4, hg4⟩
  have B4 := below_marked B3 O_G' (by omega) hg4
  have S4 := hg4.size
  have O_W''' := O_W''.kept hg4 (own_apart Z_W Z_G (by omega))
  clear O_W''
  clear hg4 B3 O_G'
  go_wp2_with fail
  refine (heldSlotS_c A_G k c_G 1 _ (Rd.of_own OM4) (by omega) (by omega) (by omega)).mono ?_
  rintro e w' ⟨rfl, rfl⟩
  go_wp2_with fail
  refine (iTableNew_k HK.out _).mono ?_
  rintro e w5 ⟨A_H, c_H, rfl, O_H, hb5⟩
  have Z_H := O_H
  have S5 := hb5.size
  have B5 := B4.trans (hb5.mono B4.size)
  have O_W'''' := own_kept O_W''' hb5
  clear O_W'''
  have OM4' := own_kept OM4 hb5
  clear OM4
  clear hb5 B4
  go_wp2_with fail
  refine (eqSlotS_t A_H A_W k c_H c_W ((List.replicate k noSlot)) _ (Rd.of_own O_H) (Rd.of_own O_W'''') (by omega)).mono ?_
  rintro e w6 ⟨rfl, hb6⟩
  have S6 := hb6.size
  have B6 := B5.trans (hb6.mono B5.size)
  have O_W''''' := own_kept O_W'''' hb6
  clear O_W''''
  have OM4'' := own_kept OM4' hb6
  clear OM4'
  have O_H' := own_kept O_H hb6
  clear O_H
  clear hb6 B5
  go_wp2_with fail
  refine (heldSlotS_c A_G k c_G 1 _ (Rd.of_own OM4'') (by omega) (by omega) (by omega)).mono ?_
  rintro e w' ⟨rfl, rfl⟩
  go_wp2
  go_ret
  exact ⟨rfl, B6⟩

/-! ### The row's step -/
theorem own : ownKnob Try.prog.godebug = none := by kernel_rfl
theorem laidOut : laidOutB Try.prog = true := by kernel_rfl
set_option maxRecDepth 100000 in
theorem lifted (os : Os) (started : os.Started) (H : Type) (enc : TypeId × Value → H) :
    ReturnsInHanded {} Try.checked os 3 .any (Rows.fnExactTableNewSpec.pre6 enc Try.prog Try.f3 Rows.fnExactTableNewRow.domain false) (Rows.fnExactTableNewSpec.post enc Try.prog Try.f3 false true false false) := by
  refine returnsInHanded_of_change (C := Try.checked) own started (by kernel_rfl) Try.func3
    (ChangeSpec.witness6 (enc := enc) (C := Try.checked) false ⟨#[], #[.int .i64 0], []⟩ 8 (by kernel_rfl) (by kernel_rfl) (by kernel_rfl) (by kernel_rfl)) ?_
  intro W base args ds gs before hval0 hW hcnd _
  have hval : ∀ (j : Nat) t v, Try.f3.params[j]? = some t → args[j]? = some v → Value.okWide Try.prog W .any base t v := hval0
  have hW' := hW
  obtain ⟨p, q, hA0, hV, rfl, hfz, hnd⟩ := hW
  have hA : DataW.TrodAll enc Try.prog W 0 (fun _ => true) true Try.f3.params.toList args.toList ds p := hA0
  rw [Try.params3] at hA hval
  obtain ⟨v0, vs0, d0, ds0, p0, q0, hargs, rfl, rfl, h0, r0⟩ := trodAll_cons hA
  obtain ⟨rfl, rfl, rfl⟩ := trodAll_nil r0
  obtain rfl : args = #[v0] := by cases args; simp_all
  obtain ⟨rfl, rfl⟩ := trodVars_none hV
  have k0 := h0
  have lt0 : ∀ x ∈ p0, x.block < W.heap.size := by obtain ⟨m, hm⟩ := k0; exact DataW.trod_lt m _ _ _ hm
  obtain ⟨a0, rfl, rfl, rfl, w0⟩ := open_int Try.underlying3 (hval 0 3 v0 rfl rfl) h0
  clear hA0 hval0
  refine (walk a0 W w0).mono fun e W' ⟨he, bel⟩ => ?_
  subst he
  exact ⟨_, rfl, _, _, _, [], _, [], hW', trodAll_mk1 (shut_bool Try.underlying4 _), (trodAll_cons_mk (Below.trod laidOut (by kernel_rfl) (of_decide_eq_true (by kernel_rfl)) k0 bel lt0) trodAll_mk0), rfl, bel.frame _, fun h => by cases h⟩

theorem over : Rows.fnExactTableNewRow.holds Try.pinned (OpenSpec.ofChange Rows.fnExactTableNewSpec) :=
  OpenClaim.holds_of_wide 3 Try.f3 rfl rfl rfl rfl rfl rfl rfl ⟨rfl, rfl, rfl, rfl, rfl⟩ rfl rfl rfl rfl rfl (by kernel_rfl) Try.func3 (by kernel_rfl)
    (of_decide_eq_true (by kernel_rfl)) (by unfold Func.isWrapper; first | (rw [if_pos (by decide +kernel)]; kernel_rfl) | (rw [if_neg (by decide +kernel)]; exact ⟨rfl, rfl⟩))
    (fun os started H enc _ => lifted os started H enc)

/-- The statement. -/
theorem proved : Rows.FnExactTableNewSaid := over
#print axioms proved
end Go.Proofs.Ytlfnhfipnjgifaa.fnExactTableNew
