/- The law FnExactCellAt returns true for every input: the program's CellAt answers as the reference's and leaves its arguments alone. No condition. -/
import Derived.Test.YtjgphiialfhdlaaRows
import Derived.Test.YtjgphiialfhdlaaOpenM
import Derived.Test.YtjgphiialfhdlaaMemF1
import Derived.WalkKit
import Derived.ProofKit
import Derived.OpenShut
import Derived.ShutString
import Derived.ChangeOld
import Derived.Below
import Derived.Handy
import Derived.Carry
import Derived.Lib.SmallJoins
import Derived.WalkLawsBesides
import Derived.WalkSpells
namespace Go.Proofs.Ytjgphiialfhdlaa.fnExactCellAt
open Go.ChangeShapes Go.WideShapes Go.ChangeAt Go.RowKit
open Go.ChangeMaps (open_string shut_string)
set_option linter.unusedVariables false
set_option linter.unusedSimpArgs false

set_option maxHeartbeats 2000000 in
theorem walk (a0 : Option Addr) (len0 cap0 : Nat) (l0 : List (List Int)) (a1 : Int) (a2 : Int) (w : World) (h0 : Mx w a0 len0 l0 ∧ len0 ≤ maxLen ∧ ∀ (i : Nat) (l : List Int), l0[i]? = some l → l.length ≤ maxLen) (w1 : (Lit.int .i64 a1).wf = true) (w2 : (Lit.int .i64 a2).wf = true) :
    Calls Try.prog 6 #[.slice a0 len0 cap0, .int .i64 a1, .int .i64 a2] w fun e w' => e = .returned (.bool true) ∧ Below w.heap.size w w' := by
  obtain ⟨R0, m0, q0⟩ := h0
  clear w1
  clear w2
  by_cases z0 : (len0 : Int) + sumLen l0 ≤ 1048576
  rotate_left
  · skip
    go_enter Try.func6, Try.ntmps6
    have B0 := Below.refl w.heap.size w
    go_wp2_with fail
    refine (szIntSS_n a0 len0 cap0 l0 _ _ R0 m0 q0 (by omega) (by omega) (by omega)).mono ?_
    rintro e w' ⟨rfl, rfl⟩
    go_wp2
    go_ret
    exact ⟨rfl, B0⟩
  have y0 : len0 ≤ 1048576 := by omega
  have s0 : sumLen l0 ≤ 1048576 := by omega
  have r0 : Rows l0 := fun i l h => Nat.le_trans (sumLen_row l0 i l h) s0
  go_enter Try.func6, Try.ntmps6
  have B0 := Below.refl w.heap.size w
  go_wp2_with fail
  refine (szIntSS_y a0 len0 cap0 l0 _ _ R0 m0 q0 (by omega) (by omega)).mono ?_
  rintro e w' ⟨rfl, rfl⟩
  clear q0
  go_wp2_with fail
  refine (toIntSS_c a0 len0 cap0 l0 _ (R0.below B0) y0 r0).mono ?_
  rintro e w1 ⟨A_t0, c_t0, v_t0, rfl, O_t0, hb1⟩
  have Z_t0 := O_t0
  have S1 := hb1.size
  have B1 := B0.trans (hb1.mono B0.size)
  clear hb1 B0
  go_wp2_with fail
  refine (sCellAt_c a1 a2 A_t0 len0 c_t0 l0 _ (O_t0.mx) y0 r0).mono ?_
  rintro e w' ⟨rfl, rfl⟩
  go_wp2_with fail
  refine (toIntSS_c a0 len0 cap0 l0 _ (R0.below B1) y0 r0).mono ?_
  rintro e w2 ⟨A_x0, c_x0, v_x0, rfl, O_x0, hb2⟩
  have Z_x0 := O_x0
  have S2 := hb2.size
  have B2 := B1.trans (hb2.mono B1.size)
  have O_t0' := O_t0.kept hb2
  clear O_t0
  clear hb2 B1
  go_wp2_with fail
  refine (iCellAt_c a1 a2 A_x0 len0 c_x0 l0 _ (O_x0.mx) y0 r0).mono ?_
  rintro e w' ⟨rfl, rfl⟩
  go_wp2_with fail
  refine (toIntSS_c a0 len0 cap0 l0 _ (R0.below B2) y0 r0).mono ?_
  rintro e w3 ⟨A_y_0, c_y_0, v_y_0, rfl, O_y_0, hb3⟩
  have Z_y_0 := O_y_0
  have S3 := hb3.size
  have B3 := B2.trans (hb3.mono B2.size)
  have O_t0'' := O_t0'.kept hb3
  clear O_t0'
  have O_x0' := O_x0.kept hb3
  clear O_x0
  clear hb3 B2
  go_wp2_with fail
  refine (eqIntSS_t A_x0 A_y_0 len0 c_x0 c_y_0 l0 _ (O_x0'.mx) (O_y_0.mx) (by omega) r0).mono ?_
  rintro e w4 ⟨rfl, hb4⟩
  have S4 := hb4.size
  have B4 := B3.trans (hb4.mono B3.size)
  have O_t0''' := O_t0''.kept hb4
  clear O_t0''
  have O_x0'' := O_x0'.kept hb4
  clear O_x0'
  have O_y_0' := O_y_0.kept hb4
  clear O_y_0
  clear hb4 B3
  go_wp2
  go_ret
  exact ⟨rfl, B4⟩

/-! ### The row's step -/
theorem own : ownKnob Try.prog.godebug = none := by kernel_rfl
theorem laidOut : laidOutB Try.prog = true := by kernel_rfl
set_option maxRecDepth 100000 in
theorem lifted (os : Os) (started : os.Started) (H : Type) (enc : TypeId × Value → H) :
    ReturnsInHanded {} Try.checked os 6 .any (Rows.fnExactCellAtSpec.pre6 enc Try.prog Try.f6 Rows.fnExactCellAtRow.domain false) (Rows.fnExactCellAtSpec.post enc Try.prog Try.f6 false true false false) := by
  refine returnsInHanded_of_change (C := Try.checked) own started (by kernel_rfl) Try.func6
    (ChangeSpec.witness6 (enc := enc) (C := Try.checked) false ⟨#[], #[.slice none 0 0, .int .i64 0, .int .i64 0], []⟩ 8 (by kernel_rfl) (by kernel_rfl) (by kernel_rfl) (by kernel_rfl)) ?_
  intro W base args ds gs before hval0 hW hcnd _
  have hval : ∀ (j : Nat) t v, Try.f6.params[j]? = some t → args[j]? = some v → Value.okWide Try.prog W .any base t v := hval0
  have hW' := hW
  obtain ⟨p, q, hA0, hV, rfl, hfz, hnd⟩ := hW
  have hA : DataW.TrodAll enc Try.prog W 0 (fun _ => true) true Try.f6.params.toList args.toList ds p := hA0
  rw [Try.params6] at hA hval
  obtain ⟨v0, vs0, d0, ds0, p0, q0, hargs, rfl, rfl, h0, r0⟩ := trodAll_cons hA
  obtain ⟨v1, vs1, d1, ds1, p1, q1, rfl, rfl, rfl, h1, r1⟩ := trodAll_cons r0
  obtain ⟨v2, vs2, d2, ds2, p2, q2, rfl, rfl, rfl, h2, r2⟩ := trodAll_cons r1
  obtain ⟨rfl, rfl, rfl⟩ := trodAll_nil r2
  obtain rfl : args = #[v0, v1, v2] := by cases args; simp_all
  obtain ⟨rfl, rfl⟩ := trodVars_none hV
  have k0 := h0
  have lt0 : ∀ x ∈ p0, x.block < W.heap.size := by obtain ⟨m, hm⟩ := k0; exact DataW.trod_lt m _ _ _ hm
  obtain ⟨a0, len0, cap0, rfl⟩ := okWide_slice Try.underlying26 (hval 0 26 v0 rfl rfl)
  obtain ⟨l0, w0⟩ := opn_intss k0
  have k1 := h1
  have lt1 : ∀ x ∈ p1, x.block < W.heap.size := by obtain ⟨m, hm⟩ := k1; exact DataW.trod_lt m _ _ _ hm
  obtain ⟨a1, rfl, rfl, rfl, w1⟩ := open_int Try.underlying3 (hval 1 3 v1 rfl rfl) h1
  have k2 := h2
  have lt2 : ∀ x ∈ p2, x.block < W.heap.size := by obtain ⟨m, hm⟩ := k2; exact DataW.trod_lt m _ _ _ hm
  obtain ⟨a2, rfl, rfl, rfl, w2⟩ := open_int Try.underlying3 (hval 2 3 v2 rfl rfl) h2
  clear hA0 hval0
  refine (walk a0 len0 cap0 l0 a1 a2 W w0 w1 w2).mono fun e W' ⟨he, bel⟩ => ?_
  subst he
  exact ⟨_, rfl, _, _, _, [], _, [], hW', trodAll_mk1 (shut_bool Try.underlying4 _), (trodAll_cons_mk (Below.trod laidOut (by kernel_rfl) (of_decide_eq_true (by kernel_rfl)) k0 bel lt0) (trodAll_cons_mk (Below.trod laidOut (by kernel_rfl) (of_decide_eq_true (by kernel_rfl)) k1 bel lt1) (trodAll_cons_mk (Below.trod laidOut (by kernel_rfl) (of_decide_eq_true (by kernel_rfl)) k2 bel lt2) trodAll_mk0))), rfl, bel.frame _, fun h => by cases h⟩

theorem over : Rows.fnExactCellAtRow.holds Try.pinned (OpenSpec.ofChange Rows.fnExactCellAtSpec) :=
  OpenClaim.holds_of_wide 6 Try.f6 rfl rfl rfl rfl rfl rfl rfl ⟨rfl, rfl, rfl, rfl, rfl⟩ rfl rfl rfl rfl rfl (by kernel_rfl) Try.func6 (by kernel_rfl)
    (of_decide_eq_true (by kernel_rfl)) (by unfold Func.isWrapper; first | (rw [if_pos (by decide +kernel)]; kernel_rfl) | (rw [if_neg (by decide +kernel)]; exact ⟨rfl, rfl⟩))
    (fun os started H enc _ => lifted os started H enc)

/-- The statement. -/
theorem proved : Rows.FnExactCellAtSaid := over
#print axioms proved
end Go.Proofs.Ytjgphiialfhdlaa.fnExactCellAt
