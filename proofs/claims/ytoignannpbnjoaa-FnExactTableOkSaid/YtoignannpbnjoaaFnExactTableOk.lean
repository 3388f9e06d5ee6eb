/- The law FnExactTableOk returns true for every input: the program's TableOk answers as the reference's and leaves its arguments alone. No condition. -/
import Derived.Test.YtoignannpbnjoaaRows
import Derived.Test.YtoignannpbnjoaaOpen
import Derived.Test.YtoignannpbnjoaaLoops2
import Derived.WalkKit
import Derived.ProofKit
import Derived.OpenShut
import Derived.ShutString
import Derived.ChangeOld
import Derived.Below
import Derived.Handy
import Derived.Carry
import Derived.Lib.SmallJoins
import Derived.WalkLawsBesides
import Derived.WalkSpells
namespace Go.Proofs.Ytoignannpbnjoaa.fnExactTableOk
open Go.ChangeShapes Go.WideShapes Go.ChangeAt Go.RowKit
open Go.ChangeMaps (open_string shut_string)
set_option linter.unusedVariables false
set_option linter.unusedSimpArgs false

set_option maxHeartbeats 2000000 in
theorem walk (a0 : Option Addr) (len0 cap0 : Nat) (l0 : List Sl) (a1 : Int) (a2 : Int) (w : World) (h0 : Rd w 2 a0 len0 (slotCells l0) ∧ len0 ≤ maxLen) (w1 : (Lit.int .i64 a1).wf = true) (w2 : (Lit.int .i64 a2).wf = true) :
    Calls Try.prog 6 #[.slice a0 len0 cap0, .int .i64 a1, .int .i64 a2] w fun e w' => e = .returned (.bool true) ∧ Below w.heap.size w w' := by
  obtain ⟨R0, m0⟩ := h0
  have g1 : a1 ≤ 9223372036854775807 := by simp [Lit.wf, IntKind.min, IntKind.max, IntKind.signed, IntKind.bits] at w1; omega
  clear w1
  have g2 : a2 ≤ 9223372036854775807 := by simp [Lit.wf, IntKind.min, IntKind.max, IntKind.signed, IntKind.bits] at w2; omega
  clear w2
  by_cases z0 : (len0 : Int) ≤ 1048576
  rotate_left
  · skip
    clear R0
    go_enter Try.func6, Try.ntmps6
    have B0 := Below.refl w.heap.size w
    go_wp2_with fail
    refine (szSlotS_n a0 len0 cap0 _ _ m0 (by omega) (by omega) (by omega)).mono ?_
    rintro e w' ⟨rfl, rfl⟩
    go_wp2
    go_ret
    exact ⟨rfl, B0⟩
  have y0 : len0 ≤ 1048576 := by omega
  go_enter Try.func6, Try.ntmps6
  have B0 := Below.refl w.heap.size w
  go_wp2_with fail
  refine (szSlotS_y a0 len0 cap0 _ _ m0 (by omega) (by omega)).mono ?_
  rintro e w' ⟨rfl, rfl⟩
  go_wp2_with fail
  refine (toSlotS_c a0 len0 cap0 l0 _ (R0.below B0) y0).mono ?_
  rintro e w1 ⟨A_t0, c_t0, rfl, O_t0, hb1⟩
  have Z_t0 := O_t0
  have S1 := hb1.size
  have B1 := B0.trans (hb1.mono B0.size)
  clear hb1 B0
  go_wp2_with fail
  refine (sTableOk_c A_t0 len0 c_t0 l0 a1 a2 _ (Rd.of_own O_t0) y0 g2).mono ?_
  rintro e w2 ⟨rfl, hb2⟩
  have S2 := hb2.size
  have B2 := B1.trans (hb2.mono B1.size)
  have O_t0' := own_kept O_t0 hb2
  clear O_t0
  clear hb2 B1
  go_wp2_with fail
  refine (toSlotS_c a0 len0 cap0 l0 _ (R0.below B2) y0).mono ?_
  rintro e w3 ⟨A_x0, c_x0, rfl, O_x0, hb3⟩
  have Z_x0 := O_x0
  have S3 := hb3.size
  have B3 := B2.trans (hb3.mono B2.size)
  have O_t0'' := own_kept O_t0' hb3
  clear O_t0'
  clear hb3 B2
  go_wp2_with fail
  refine (iTableOk_c A_x0 len0 c_x0 l0 a1 a2 _ (Rd.of_own O_x0) y0 g2).mono ?_
  rintro e w4 ⟨rfl, hb4⟩
  have S4 := hb4.size
  have B4 := B3.trans (hb4.mono B3.size)
  have O_t0''' := own_kept O_t0'' hb4
  clear O_t0''
  have O_x0' := own_kept O_x0 hb4
  clear O_x0
  clear hb4 B3
  go_wp2_with fail
  refine (toSlotS_c a0 len0 cap0 l0 _ (R0.below B4) y0).mono ?_
  rintro e w5 ⟨A_y_0, c_y_0, rfl, O_y_0, hb5⟩
  have Z_y_0 := O_y_0
  have S5 := hb5.size
  have B5 := B4.trans (hb5.mono B4.size)
  have O_t0'''' := own_kept O_t0''' hb5
  clear O_t0'''
  have O_x0'' := own_kept O_x0' hb5
  clear O_x0'
  clear hb5 B4
  go_wp2_with fail
  refine (eqSlotS_t A_x0 A_y_0 len0 c_x0 c_y_0 l0 _ (Rd.of_own O_x0'') (Rd.of_own O_y_0) (by omega)).mono ?_
  rintro e w6 ⟨rfl, hb6⟩
  have S6 := hb6.size
  have B6 := B5.trans (hb6.mono B5.size)
  have O_t0''''' := own_kept O_t0'''' hb6
  clear O_t0''''
  have O_x0''' := own_kept O_x0'' hb6
  clear O_x0''
  have O_y_0' := own_kept O_y_0 hb6
  clear O_y_0
  clear hb6 B5
  go_wp2
  go_ret
  exact ⟨rfl, B6⟩

/-! ### The row's step -/
theorem own : ownKnob Try.prog.godebug = none := by kernel_rfl
theorem laidOut : laidOutB Try.prog = true := by kernel_rfl
set_option maxRecDepth 100000 in
theorem lifted (os : Os) (started : os.Started) (H : Type) (enc : TypeId × Value → H) :
    ReturnsInHanded {} Try.checked os 6 .any (Rows.fnExactTableOkSpec.pre6 enc Try.prog Try.f6 Rows.fnExactTableOkRow.domain false) (Rows.fnExactTableOkSpec.post enc Try.prog Try.f6 false true false false) := by
  refine returnsInHanded_of_change (C := Try.checked) own started (by kernel_rfl) Try.func6
    (ChangeSpec.witness6 (enc := enc) (C := Try.checked) false ⟨#[], #[.slice none 0 0, .int .i64 0, .int .i64 0], []⟩ 8 (by kernel_rfl) (by kernel_rfl) (by kernel_rfl) (by kernel_rfl)) ?_
  intro W base args ds gs before hval0 hW hcnd _
  have hval : ∀ (j : Nat) t v, Try.f6.params[j]? = some t → args[j]? = some v → Value.okWide Try.prog W .any base t v := hval0
  have hW' := hW
  obtain ⟨p, q, hA0, hV, rfl, hfz, hnd⟩ := hW
  have hA : DataW.TrodAll enc Try.prog W 0 (fun _ => true) true Try.f6.params.toList args.toList ds p := hA0
  rw [Try.params6] at hA hval
  obtain ⟨v0, vs0, d0, ds0, p0, q0, hargs, rfl, rfl, h0, r0⟩ := trodAll_cons hA
  obtain ⟨v1, vs1, d1, ds1, p1, q1, rfl, rfl, rfl, h1, r1⟩ := trodAll_cons r0
  obtain ⟨v2, vs2, d2, ds2, p2, q2, rfl, rfl, rfl, h2, r2⟩ := trodAll_cons r1
  obtain ⟨rfl, rfl, rfl⟩ := trodAll_nil r2
  obtain rfl : args = #[v0, v1, v2] := by cases args; simp_all
  obtain ⟨rfl, rfl⟩ := trodVars_none hV
  have k0 := h0
  have lt0 : ∀ x ∈ p0, x.block < W.heap.size := by obtain ⟨m, hm⟩ := k0; exact DataW.trod_lt m _ _ _ hm
  obtain ⟨a0, len0, cap0, rfl⟩ := okWide_slice Try.underlying22 (hval 0 22 v0 rfl rfl)
  obtain ⟨l0, w0⟩ := open_slots k0
  have k1 := h1
  have lt1 : ∀ x ∈ p1, x.block < W.heap.size := by obtain ⟨m, hm⟩ := k1; exact DataW.trod_lt m _ _ _ hm
  obtain ⟨a1, rfl, rfl, rfl, w1⟩ := open_int Try.underlying3 (hval 1 3 v1 rfl rfl) h1
  have k2 := h2
  have lt2 : ∀ x ∈ p2, x.block < W.heap.size := by obtain ⟨m, hm⟩ := k2; exact DataW.trod_lt m _ _ _ hm
  obtain ⟨a2, rfl, rfl, rfl, w2⟩ := open_int Try.underlying3 (hval 2 3 v2 rfl rfl) h2
  clear hA0 hval0
  refine (walk a0 len0 cap0 l0 a1 a2 W w0 w1 w2).mono fun e W' ⟨he, bel⟩ => ?_
  subst he
  exact ⟨_, rfl, _, _, _, [], _, [], hW', trodAll_mk1 (shut_bool Try.underlying4 _), (trodAll_cons_mk (Below.trod laidOut (by kernel_rfl) (of_decide_eq_true (by kernel_rfl)) k0 bel lt0) (trodAll_cons_mk (Below.trod laidOut (by kernel_rfl) (of_decide_eq_true (by kernel_rfl)) k1 bel lt1) (trodAll_cons_mk (Below.trod laidOut (by kernel_rfl) (of_decide_eq_true (by kernel_rfl)) k2 bel lt2) trodAll_mk0))), rfl, bel.frame _, fun h => by cases h⟩

theorem over : Rows.fnExactTableOkRow.holds Try.pinned (OpenSpec.ofChange Rows.fnExactTableOkSpec) :=
  OpenClaim.holds_of_wide 6 Try.f6 rfl rfl rfl rfl rfl rfl rfl ⟨rfl, rfl, rfl, rfl, rfl⟩ rfl rfl rfl rfl rfl (by kernel_rfl) Try.func6 (by kernel_rfl)
    (of_decide_eq_true (by kernel_rfl)) (by unfold Func.isWrapper; first | (rw [if_pos (by decide +kernel)]; kernel_rfl) | (rw [if_neg (by decide +kernel)]; exact ⟨rfl, rfl⟩))
    (fun os started H enc _ => lifted os started H enc)

/-- The statement. -/
theorem proved : Rows.FnExactTableOkSaid := over
#print axioms proved
end Go.Proofs.Ytoignannpbnjoaa.fnExactTableOk
