/- The law FnExactPageOk returns true for every input: the program's PageOk answers as the reference's and leaves its arguments alone. No condition. -/
import Derived.Test.YtjgphiialfhdlaaRows
import Derived.Test.YtjgphiialfhdlaaOpenM
import Derived.Test.YtjgphiialfhdlaaMemF1
import Derived.WalkKit
import Derived.ProofKit
import Derived.OpenShut
import Derived.ShutString
import Derived.ChangeOld
import Derived.Below
import Derived.Handy
import Derived.Carry
import Derived.Lib.SmallJoins
import Derived.WalkLawsBesides
import Derived.WalkSpells
namespace Go.Proofs.Ytjgphiialfhdlaa.fnExactPageOk
open Go.ChangeShapes Go.WideShapes Go.ChangeAt Go.RowKit
open Go.ChangeMaps (open_string shut_string)
set_option linter.unusedVariables false
set_option linter.unusedSimpArgs false

set_option maxHeartbeats 2000000 in
theorem walk (a0 : Option Addr) (len0 cap0 : Nat) (l0 : List Int) (w : World) (h0 : Rd w 1 a0 len0 (intCells l0) ∧ len0 ≤ maxLen) :
    Calls Try.prog 3 #[.slice a0 len0 cap0] w fun e w' => e = .returned (.bool true) ∧ Below w.heap.size w w' := by
  obtain ⟨R0, m0⟩ := h0
  have m0' : len0 ≤ 9223372036854775807 := by simpa [maxLen] using m0
  by_cases y0 : len0 ≤ 1048576
  rotate_left
  · skip
    clear R0
    go_enter Try.func3, Try.ntmps3
    have B0 := Below.refl w.heap.size w
    go_wp2
    go_ret
    exact ⟨rfl, B0⟩
  go_enter Try.func3, Try.ntmps3
  have B0 := Below.refl w.heap.size w
  go_wp2_with fail
  refine (toIntS_c a0 len0 cap0 l0 _ (R0.below B0) y0).mono ?_
  rintro e w1 ⟨A_t0, c_t0, rfl, O_t0, hb1⟩
  have Z_t0 := O_t0
  have S1 := hb1.size
  have B1 := B0.trans (hb1.mono B0.size)
  clear hb1 B0
  go_wp2_with fail
  refine (sPageOk_c A_t0 len0 c_t0 l0 _ (Rd.of_own O_t0) y0).mono ?_
  rintro e w' ⟨rfl, rfl⟩
  go_wp2_with fail
  refine (toIntS_c a0 len0 cap0 l0 _ (R0.below B1) y0).mono ?_
  rintro e w2 ⟨A_x0, c_x0, rfl, O_x0, hb2⟩
  have Z_x0 := O_x0
  have S2 := hb2.size
  have B2 := B1.trans (hb2.mono B1.size)
  have O_t0' := own_kept O_t0 hb2
  clear O_t0
  clear hb2 B1
  go_wp2_with fail
  refine (iPageOk_c A_x0 len0 c_x0 l0 _ (Rd.of_own O_x0) y0).mono ?_
  rintro e w' ⟨rfl, rfl⟩
  go_wp2_with fail
  refine (toIntS_c a0 len0 cap0 l0 _ (R0.below B2) y0).mono ?_
  rintro e w3 ⟨A_y_0, c_y_0, rfl, O_y_0, hb3⟩
  have Z_y_0 := O_y_0
  have S3 := hb3.size
  have B3 := B2.trans (hb3.mono B2.size)
  have O_t0'' := own_kept O_t0' hb3
  clear O_t0'
  have O_x0' := own_kept O_x0 hb3
  clear O_x0
  clear hb3 B2
  go_wp2_with fail
  refine (eqIntS_t A_x0 A_y_0 len0 c_x0 c_y_0 l0 _ (Rd.of_own O_x0') (Rd.of_own O_y_0) (by omega)).mono ?_
  rintro e w4 ⟨rfl, hb4⟩
  have S4 := hb4.size
  have B4 := B3.trans (hb4.mono B3.size)
  have O_t0''' := own_kept O_t0'' hb4
  clear O_t0''
  have O_x0'' := own_kept O_x0' hb4
  clear O_x0'
  have O_y_0' := own_kept O_y_0 hb4
  clear O_y_0
  clear hb4 B3
  go_wp2
  go_ret
  exact ⟨rfl, B4⟩

/-! ### The row's step -/
theorem own : ownKnob Try.prog.godebug = none := by kernel_rfl
theorem laidOut : laidOutB Try.prog = true := by kernel_rfl
set_option maxRecDepth 100000 in
theorem lifted (os : Os) (started : os.Started) (H : Type) (enc : TypeId × Value → H) :
    ReturnsInHanded {} Try.checked os 3 .any (Rows.fnExactPageOkSpec.pre6 enc Try.prog Try.f3 Rows.fnExactPageOkRow.domain false) (Rows.fnExactPageOkSpec.post enc Try.prog Try.f3 false true false false) := by
  refine returnsInHanded_of_change (C := Try.checked) own started (by kernel_rfl) Try.func3
    (ChangeSpec.witness6 (enc := enc) (C := Try.checked) false ⟨#[], #[.slice none 0 0], []⟩ 8 (by kernel_rfl) (by kernel_rfl) (by kernel_rfl) (by kernel_rfl)) ?_
  intro W base args ds gs before hval0 hW hcnd _
  have hval : ∀ (j : Nat) t v, Try.f3.params[j]? = some t → args[j]? = some v → Value.okWide Try.prog W .any base t v := hval0
  have hW' := hW
  obtain ⟨p, q, hA0, hV, rfl, hfz, hnd⟩ := hW
  have hA : DataW.TrodAll enc Try.prog W 0 (fun _ => true) true Try.f3.params.toList args.toList ds p := hA0
  rw [Try.params3] at hA hval
  obtain ⟨v0, vs0, d0, ds0, p0, q0, hargs, rfl, rfl, h0, r0⟩ := trodAll_cons hA
  obtain ⟨rfl, rfl, rfl⟩ := trodAll_nil r0
  obtain rfl : args = #[v0] := by cases args; simp_all
  obtain ⟨rfl, rfl⟩ := trodVars_none hV
  have k0 := h0
  have lt0 : ∀ x ∈ p0, x.block < W.heap.size := by obtain ⟨m, hm⟩ := k0; exact DataW.trod_lt m _ _ _ hm
  obtain ⟨a0, len0, cap0, rfl⟩ := okWide_slice Try.underlying22 (hval 0 22 v0 rfl rfl)
  obtain ⟨l0, w0⟩ := opn_ints k0
  clear hA0 hval0
  refine (walk a0 len0 cap0 l0 W w0).mono fun e W' ⟨he, bel⟩ => ?_
  subst he
  exact ⟨_, rfl, _, _, _, [], _, [], hW', trodAll_mk1 (shut_bool Try.underlying4 _), (trodAll_cons_mk (Below.trod laidOut (by kernel_rfl) (of_decide_eq_true (by kernel_rfl)) k0 bel lt0) trodAll_mk0), rfl, bel.frame _, fun h => by cases h⟩

theorem over : Rows.fnExactPageOkRow.holds Try.pinned (OpenSpec.ofChange Rows.fnExactPageOkSpec) :=
  OpenClaim.holds_of_wide 3 Try.f3 rfl rfl rfl rfl rfl rfl rfl ⟨rfl, rfl, rfl, rfl, rfl⟩ rfl rfl rfl rfl rfl (by kernel_rfl) Try.func3 (by kernel_rfl)
    (of_decide_eq_true (by kernel_rfl)) (by unfold Func.isWrapper; first | (rw [if_pos (by decide +kernel)]; kernel_rfl) | (rw [if_neg (by decide +kernel)]; exact ⟨rfl, rfl⟩))
    (fun os started H enc _ => lifted os started H enc)

/-- The statement. -/
theorem proved : Rows.FnExactPageOkSaid := over
#print axioms proved
end Go.Proofs.Ytjgphiialfhdlaa.fnExactPageOk
