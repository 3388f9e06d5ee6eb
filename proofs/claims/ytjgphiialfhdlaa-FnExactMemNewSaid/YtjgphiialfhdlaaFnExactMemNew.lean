/- The law FnExactMemNew returns true for every input: the program's MemNew answers as the reference's and leaves its arguments alone. No condition. -/
import Derived.Test.YtjgphiialfhdlaaRows
import Derived.Test.YtjgphiialfhdlaaOpenM
import Derived.Test.YtjgphiialfhdlaaMemF6
import Derived.WalkKit
import Derived.ProofKit
import Derived.OpenShut
import Derived.ShutString
import Derived.ChangeOld
import Derived.Below
import Derived.Handy
import Derived.Carry
import Derived.Lib.SmallJoins
import Derived.WalkLawsBesides
import Derived.WalkSpells
namespace Go.Proofs.Ytjgphiialfhdlaa.fnExactMemNew
open Go.ChangeShapes Go.WideShapes Go.ChangeAt Go.RowKit
open Go.ChangeMaps (open_string shut_string)
set_option linter.unusedVariables false
set_option linter.unusedSimpArgs false

set_option maxHeartbeats 2000000 in
theorem walk (a0 : Int) (w : World) (w0 : (Lit.int .i64 a0).wf = true) :
    Calls Try.prog 5 #[.int .i64 a0] w fun e w' => e = .returned (.bool true) ∧ Below w.heap.size w w' := by
  clear w0
  have yN : (memNew a0).length ≤ 1048576 := by have := memNew_len a0; omega
  have rG : Rows (memNew a0) := memNew_rows a0
  have sG : sumLen (memNew a0) ≤ 1048576 := by have := memNew_sum a0; omega
  go_enter Try.func5, Try.ntmps5
  have B0 := Below.refl w.heap.size w
  go_wp2_with fail
  refine (sMemNew_c a0 _).mono ?_
  rintro e w1 ⟨A_W, c_W, v_W, rfl, O_W, hb1⟩
  have Z_W := O_W
  have S1 := hb1.size
  have B1 := B0.trans (hb1.mono B0.size)
  clear hb1 B0
  go_wp2_with fail
  refine (iMemNew_c a0 _).mono ?_
  rintro e w2 ⟨A_G, c_G, v_G, rfl, O_G, hb2⟩
  have Z_G := O_G
  have S2 := hb2.size
  have B2 := B1.trans (hb2.mono B1.size)
  have O_W' := O_W.kept hb2
  clear O_W
  clear hb2 B1
  go_wp2_with fail
  refine (eqIntSS_t A_G A_W (memNew a0).length c_G c_W ((memNew a0)) _ (O_G.mx) (O_W'.mx) (by omega) rG).mono ?_
  rintro e w3 ⟨rfl, hb3⟩
  have S3 := hb3.size
  have B3 := B2.trans (hb3.mono B2.size)
  have O_W'' := O_W'.kept hb3
  clear O_W'
  have O_G' := O_G.kept hb3
  clear O_G
  clear hb3 B2
  go_wp2_with fail
  refine (markIntSS_c A_G (memNew a0).length c_G ((memNew a0)) v_G 1 _ _ O_G' (by omega) rG (by omega) (by omega) (by omega)).mono ?_
  rintro e w4 ⟨rfl, OM4, hg4⟩
  have GS4 := hg4
  have S4 := GS4.size
  have B4 := below_S B3 GS4 (fun k hk => by have := Z_G.inRows_lt hk; omega)
  have O_W''' := O_W''.keptS GS4 (fun k hk hs => by have a := Z_W.row.lt k hk; have b := Z_G.inRows_lt hs; omega) (fun k hk hs => by have a := Z_W.inRows_lt hk; have b := Z_G.inRows_lt hs; omega)
  clear O_W''
  clear hg4 GS4 B3 O_G'
  go_wp2_with fail
  refine (heldIntSS_c A_G (memNew a0).length c_G ((memNew a0)) 1 _ (OM4.mx) (by omega) rG (by omega) (by omega) (by omega)).mono ?_
  rintro e w' ⟨rfl, rfl⟩
  go_wp2_with fail
  refine (iMemNew_c a0 _).mono ?_
  rintro e w5 ⟨A_H, c_H, v_H, rfl, O_H, hb5⟩
  have Z_H := O_H
  have S5 := hb5.size
  have B5 := B4.trans (hb5.mono B4.size)
  have O_W'''' := O_W'''.kept hb5
  clear O_W'''
  have OM4' := OM4.kept hb5
  clear OM4
  clear hb5 B4
  go_wp2_with fail
  refine (eqIntSS_t A_H A_W (memNew a0).length c_H c_W ((memNew a0)) _ (O_H.mx) (O_W''''.mx) (by omega) rG).mono ?_
  rintro e w6 ⟨rfl, hb6⟩
  have S6 := hb6.size
  have B6 := B5.trans (hb6.mono B5.size)
  have O_W''''' := O_W''''.kept hb6
  clear O_W''''
  have OM4'' := OM4'.kept hb6
  clear OM4'
  have O_H' := O_H.kept hb6
  clear O_H
  clear hb6 B5
  go_wp2_with fail
  refine (heldIntSS_c A_G (memNew a0).length c_G ((memNew a0)) 1 _ (OM4''.mx) (by omega) rG (by omega) (by omega) (by omega)).mono ?_
  rintro e w' ⟨rfl, rfl⟩
  go_wp2
  go_ret
  exact ⟨rfl, B6⟩

/-! ### The row's step -/
theorem own : ownKnob Try.prog.godebug = none := by kernel_rfl
theorem laidOut : laidOutB Try.prog = true := by kernel_rfl
set_option maxRecDepth 100000 in
theorem lifted (os : Os) (started : os.Started) (H : Type) (enc : TypeId × Value → H) :
    ReturnsInHanded {} Try.checked os 5 .any (Rows.fnExactMemNewSpec.pre6 enc Try.prog Try.f5 Rows.fnExactMemNewRow.domain false) (Rows.fnExactMemNewSpec.post enc Try.prog Try.f5 false true false false) := by
  refine returnsInHanded_of_change (C := Try.checked) own started (by kernel_rfl) Try.func5
    (ChangeSpec.witness6 (enc := enc) (C := Try.checked) false ⟨#[], #[.int .i64 0], []⟩ 8 (by kernel_rfl) (by kernel_rfl) (by kernel_rfl) (by kernel_rfl)) ?_
  intro W base args ds gs before hval0 hW hcnd _
  have hval : ∀ (j : Nat) t v, Try.f5.params[j]? = some t → args[j]? = some v → Value.okWide Try.prog W .any base t v := hval0
  have hW' := hW
  obtain ⟨p, q, hA0, hV, rfl, hfz, hnd⟩ := hW
  have hA : DataW.TrodAll enc Try.prog W 0 (fun _ => true) true Try.f5.params.toList args.toList ds p := hA0
  rw [Try.params5] at hA hval
  obtain ⟨v0, vs0, d0, ds0, p0, q0, hargs, rfl, rfl, h0, r0⟩ := trodAll_cons hA
  obtain ⟨rfl, rfl, rfl⟩ := trodAll_nil r0
  obtain rfl : args = #[v0] := by cases args; simp_all
  obtain ⟨rfl, rfl⟩ := trodVars_none hV
  have k0 := h0
  have lt0 : ∀ x ∈ p0, x.block < W.heap.size := by obtain ⟨m, hm⟩ := k0; exact DataW.trod_lt m _ _ _ hm
  obtain ⟨a0, rfl, rfl, rfl, w0⟩ := open_int Try.underlying3 (hval 0 3 v0 rfl rfl) h0
  clear hA0 hval0
  refine (walk a0 W w0).mono fun e W' ⟨he, bel⟩ => ?_
  subst he
  exact ⟨_, rfl, _, _, _, [], _, [], hW', trodAll_mk1 (shut_bool Try.underlying4 _), (trodAll_cons_mk (Below.trod laidOut (by kernel_rfl) (of_decide_eq_true (by kernel_rfl)) k0 bel lt0) trodAll_mk0), rfl, bel.frame _, fun h => by cases h⟩

theorem over : Rows.fnExactMemNewRow.holds Try.pinned (OpenSpec.ofChange Rows.fnExactMemNewSpec) :=
  OpenClaim.holds_of_wide 5 Try.f5 rfl rfl rfl rfl rfl rfl rfl ⟨rfl, rfl, rfl, rfl, rfl⟩ rfl rfl rfl rfl rfl (by kernel_rfl) Try.func5 (by kernel_rfl)
    (of_decide_eq_true (by kernel_rfl)) (by unfold Func.isWrapper; first | (rw [if_pos (by decide +kernel)]; kernel_rfl) | (rw [if_neg (by decide +kernel)]; exact ⟨rfl, rfl⟩))
    (fun os started H enc _ => lifted os started H enc)

/-- The statement. -/
theorem proved : Rows.FnExactMemNewSaid := over
#print axioms proved
end Go.Proofs.Ytjgphiialfhdlaa.fnExactMemNew
