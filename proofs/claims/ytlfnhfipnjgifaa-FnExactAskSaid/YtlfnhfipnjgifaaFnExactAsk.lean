/- The law FnExactAsk returns true for every input. No condition. -/
import Derived.Test.YtlfnhfipnjgifaaRows
import Derived.Test.YtlfnhfipnjgifaaOpenK
import Derived.Test.YtlfnhfipnjgifaaKeptF
import Derived.WalkKit
import Derived.ProofKit
import Derived.OpenShut
import Derived.ShutString
import Derived.ChangeOld
import Derived.Below
import Derived.Handy
import Derived.Carry
import Derived.Lib.SmallJoins
import Derived.WalkLawsBesides
import Derived.WalkSpells
import Derived.Deep.RegionWith
namespace Go.Proofs.Ytlfnhfipnjgifaa.fnExactAsk
open Go.ChangeShapes Go.WideShapes Go.ChangeAt Go.RowKit
open Go.ChangeMaps (open_string shut_string)
set_option linter.unusedVariables false
set_option linter.unusedSimpArgs false

set_option maxHeartbeats 4000000 in
theorem walk (a0 : Option Addr) (len0 cap0 : Nat) (l0 : List Bool) (b0 : Option Addr) (len0' cap0' : Nat) (m0 : List Sl) (a1 : Int) (w : World) (w0 : Rd w 1 a0 len0 (boolCells l0) ∧ len0 ≤ maxLen) (u0 : Rd w 2 b0 len0' (slotCells m0) ∧ len0' ≤ maxLen) (w1 : (Lit.int .i64 a1).wf = true) :
    Calls Try.prog 6 #[.agg #[.slice a0 len0 cap0, .slice b0 len0' cap0'], .int .i64 a1] w fun e w' => e = .returned (.bool true) ∧ Below w.heap.size w w' := by
  obtain ⟨R0, m1⟩ := w0
  obtain ⟨R1, m2⟩ := u0
  clear w1
  have hz : Below w.heap.size w (w.alloc (.cells #[.slice a0 len0 cap0, .slice b0 len0' cap0'] 35)) := (Below.refl _ _).alloc (Nat.le_refl _) _
  have P := KBox.new w 35 (.slice a0 len0 cap0) (.slice b0 len0' cap0')
  have p0 := P.c0
  have p1 := P.c1
  clear P
  by_cases z0 : (len0 : Int) + len0' ≤ 1048576
  rotate_left
  · clear R0 R1
    go_enter Try.func6, Try.ntmps6
    go_wp2_with fail
    refine (szKept_n a0 b0 len0 len0' cap0 cap0' 1048576 _ m1 m2 (by omega) (by omega) (by omega)).mono ?_
    rintro e w1 ⟨rfl, hb⟩
    have B1 := hz.trans (hb.mono hz.size)
    go_wp2
    go_ret
    exact ⟨rfl, B1⟩
  have y0 : len0 ≤ 1048576 := by omega
  have y1 : len0' ≤ 1048576 := by omega
  have ra := Lib.hid (R0.below hz)
  have rb := Lib.hid (R1.below hz)
  clear R0 R1
  go_enter Try.func6, Try.ntmps6
  go_wp2_with fail
  refine (szKept_y a0 b0 len0 len0' cap0 cap0' 1048576 _ m1 m2 (by omega) z0).mono ?_
  rintro e w1 ⟨rfl, hb⟩
  have B1 := hz.trans (hb.mono hz.size)
  have c1_0 := below_keep hb _ _ p0
  clear p0
  have c1_1 := below_keep hb _ _ p1
  clear p1
  have r1_0 := Lib.hid (ra.out.below hb)
  clear ra
  have r1_1 := Lib.hid (rb.out.below hb)
  clear rb
  clear hb
  go_wp2_with fail
  refine (toKept_c a0 b0 len0 len0' cap0 cap0' l0 m0 _ r1_0.out r1_1.out y0 y1).mono ?_
  rintro e w2 ⟨A_t, C_t, D_t, E_t, rfl, o1, o2, hb⟩
  have q1 := Lib.hid (Rd.of_own o1)
  have q2 := Lib.hid (Rd.of_own o2)
  clear o1 o2
  have B2 := B1.trans (hb.mono B1.size)
  have c2_0 := below_keep hb _ _ c1_0
  clear c1_0
  have c2_1 := below_keep hb _ _ c1_1
  clear c1_1
  have r2_0 := Lib.hid (r1_0.out.below hb)
  clear r1_0
  have r2_1 := Lib.hid (r1_1.out.below hb)
  clear r1_1
  clear hb
  have t1 := q1
  have t2 := q2
  clear q1 q2
  obtain ⟨⟨⟨p, r⟩, v⟩, hv⟩ : ∃ y, askS l0 m0 a1 = y := ⟨_, rfl⟩
  have HV := Lib.hid hv
  clear hv
  go_wp2_with fail
  refine (sAsk_c A_t D_t len0 len0' C_t E_t l0 m0 a1 _ t1.out t2.out y0 y1 HV.out).mono ?_
  rintro e w3 ⟨rfl, hb⟩
  have B3 := B2.trans (hb.mono B2.size)
  have c3_0 := below_keep hb _ _ c2_0
  clear c2_0
  have c3_1 := below_keep hb _ _ c2_1
  clear c2_1
  have r3_0 := Lib.hid (r2_0.out.below hb)
  clear r2_0
  have r3_1 := Lib.hid (r2_1.out.below hb)
  clear r2_1
  have r3_2 := Lib.hid (t1.out.below hb)
  clear t1
  have r3_3 := Lib.hid (t2.out.below hb)
  clear t2
  clear hb
  have X := KBox.new w3 41 (.int .i64 p) (.int .i64 r)
  have sc0 := X.c0
  have sc1 := X.c1
  clear X
  have hA3 := (Below.refl (w3).heap.size (w3)).alloc (Nat.le_refl _) (.cells #[.int .i64 p, .int .i64 r] 41)
  have B4 := B3.trans (hA3.mono B3.size)
  have c4_0 := below_keep hA3 _ _ c3_0
  clear c3_0
  have c4_1 := below_keep hA3 _ _ c3_1
  clear c3_1
  have r4_0 := Lib.hid (r3_0.out.below hA3)
  clear r3_0
  have r4_1 := Lib.hid (r3_1.out.below hA3)
  clear r3_1
  have r4_2 := Lib.hid (r3_2.out.below hA3)
  clear r3_2
  have r4_3 := Lib.hid (r3_3.out.below hA3)
  clear r3_3
  go_wp2_with fail
  refine (toKept_c a0 b0 len0 len0' cap0 cap0' l0 m0 _ r4_0.out r4_1.out y0 y1).mono ?_
  rintro e w4 ⟨A_x, C_x, D_x, E_x, rfl, o1, o2, hb⟩
  have q1 := Lib.hid (Rd.of_own o1)
  have q2 := Lib.hid (Rd.of_own o2)
  clear o1 o2
  have B5 := B4.trans (hb.mono B4.size)
  have c5_0 := below_keep hb _ _ c4_0
  clear c4_0
  have c5_1 := below_keep hb _ _ c4_1
  clear c4_1
  have c5_2 := below_keep hb _ _ sc0
  clear sc0
  have c5_3 := below_keep hb _ _ sc1
  clear sc1
  have r5_0 := Lib.hid (r4_0.out.below hb)
  clear r4_0
  have r5_1 := Lib.hid (r4_1.out.below hb)
  clear r4_1
  have r5_2 := Lib.hid (r4_2.out.below hb)
  clear r4_2
  have r5_3 := Lib.hid (r4_3.out.below hb)
  clear r4_3
  clear hb
  have x1 := q1
  have x2 := q2
  clear q1 q2
  have X := KBox.new w4 29 (.slice A_x len0 C_x) (.slice D_x len0' E_x)
  have xc0 := X.c0
  have xc1 := X.c1
  clear X
  have hA5 := (Below.refl (w4).heap.size (w4)).alloc (Nat.le_refl _) (.cells #[.slice A_x len0 C_x, .slice D_x len0' E_x] 29)
  have B6 := B5.trans (hA5.mono B5.size)
  have c6_0 := below_keep hA5 _ _ c5_0
  clear c5_0
  have c6_1 := below_keep hA5 _ _ c5_1
  clear c5_1
  have c6_2 := below_keep hA5 _ _ c5_2
  clear c5_2
  have c6_3 := below_keep hA5 _ _ c5_3
  clear c5_3
  have r6_0 := Lib.hid (r5_0.out.below hA5)
  clear r5_0
  have r6_1 := Lib.hid (r5_1.out.below hA5)
  clear r5_1
  have r6_2 := Lib.hid (r5_2.out.below hA5)
  clear r5_2
  have r6_3 := Lib.hid (r5_3.out.below hA5)
  clear r5_3
  have r6_4 := Lib.hid (x1.out.below hA5)
  clear x1
  have r6_5 := Lib.hid (x2.out.below hA5)
  clear x2
  go_wp2_with fail
  refine (iAsk_c A_x D_x len0 len0' C_x E_x l0 m0 a1 _ r6_4.out r6_5.out y0 y1 HV.out).mono ?_
  rintro e w5 ⟨rfl, hb⟩
  have B7 := B6.trans (hb.mono B6.size)
  have c7_0 := below_keep hb _ _ c6_0
  clear c6_0
  have c7_1 := below_keep hb _ _ c6_1
  clear c6_1
  have c7_2 := below_keep hb _ _ c6_2
  clear c6_2
  have c7_3 := below_keep hb _ _ c6_3
  clear c6_3
  have c7_4 := below_keep hb _ _ xc0
  clear xc0
  have c7_5 := below_keep hb _ _ xc1
  clear xc1
  have r7_0 := Lib.hid (r6_0.out.below hb)
  clear r6_0
  have r7_1 := Lib.hid (r6_1.out.below hb)
  clear r6_1
  have r7_2 := Lib.hid (r6_2.out.below hb)
  clear r6_2
  have r7_3 := Lib.hid (r6_3.out.below hb)
  clear r6_3
  have r7_4 := Lib.hid (r6_4.out.below hb)
  clear r6_4
  have r7_5 := Lib.hid (r6_5.out.below hb)
  clear r6_5
  clear hb
  have X := KBox.new w5 41 (.int .i64 p) (.int .i64 r)
  have gc0 := X.c0
  have gc1 := X.c1
  clear X
  have hA7 := (Below.refl (w5).heap.size (w5)).alloc (Nat.le_refl _) (.cells #[.int .i64 p, .int .i64 r] 41)
  have B8 := B7.trans (hA7.mono B7.size)
  have c8_0 := below_keep hA7 _ _ c7_0
  clear c7_0
  have c8_1 := below_keep hA7 _ _ c7_1
  clear c7_1
  have c8_2 := below_keep hA7 _ _ c7_2
  clear c7_2
  have c8_3 := below_keep hA7 _ _ c7_3
  clear c7_3
  have c8_4 := below_keep hA7 _ _ c7_4
  clear c7_4
  have c8_5 := below_keep hA7 _ _ c7_5
  clear c7_5
  have r8_0 := Lib.hid (r7_0.out.below hA7)
  clear r7_0
  have r8_1 := Lib.hid (r7_1.out.below hA7)
  clear r7_1
  have r8_2 := Lib.hid (r7_2.out.below hA7)
  clear r7_2
  have r8_3 := Lib.hid (r7_3.out.below hA7)
  clear r7_3
  have r8_4 := Lib.hid (r7_4.out.below hA7)
  clear r7_4
  have r8_5 := Lib.hid (r7_5.out.below hA7)
  clear r7_5
  go_wp2_with fail
  refine (eqSlot_t p r _).mono ?_
  rintro e w6 ⟨rfl, hb⟩
  have B9 := B8.trans (hb.mono B8.size)
  have c9_0 := below_keep hb _ _ c8_0
  clear c8_0
  have c9_1 := below_keep hb _ _ c8_1
  clear c8_1
  have c9_2 := below_keep hb _ _ c8_2
  clear c8_2
  have c9_3 := below_keep hb _ _ c8_3
  clear c8_3
  have c9_4 := below_keep hb _ _ c8_4
  clear c8_4
  have c9_5 := below_keep hb _ _ c8_5
  clear c8_5
  have c9_6 := below_keep hb _ _ gc0
  clear gc0
  have c9_7 := below_keep hb _ _ gc1
  clear gc1
  have r9_0 := Lib.hid (r8_0.out.below hb)
  clear r8_0
  have r9_1 := Lib.hid (r8_1.out.below hb)
  clear r8_1
  have r9_2 := Lib.hid (r8_2.out.below hb)
  clear r8_2
  have r9_3 := Lib.hid (r8_3.out.below hb)
  clear r8_3
  have r9_4 := Lib.hid (r8_4.out.below hb)
  clear r8_4
  have r9_5 := Lib.hid (r8_5.out.below hb)
  clear r8_5
  clear hb
  have hD := (Below.refl w6.heap.size w6).drew
  have B10 := B9.trans (hD.mono B9.size)
  have c10_0 := below_keep hD _ _ c9_0
  clear c9_0
  have c10_1 := below_keep hD _ _ c9_1
  clear c9_1
  have c10_2 := below_keep hD _ _ c9_2
  clear c9_2
  have c10_3 := below_keep hD _ _ c9_3
  clear c9_3
  have c10_4 := below_keep hD _ _ c9_4
  clear c9_4
  have c10_5 := below_keep hD _ _ c9_5
  clear c9_5
  have c10_6 := below_keep hD _ _ c9_6
  clear c9_6
  have c10_7 := below_keep hD _ _ c9_7
  clear c9_7
  have r10_0 := Lib.hid (r9_0.out.below hD)
  clear r9_0
  have r10_1 := Lib.hid (r9_1.out.below hD)
  clear r9_1
  have r10_2 := Lib.hid (r9_2.out.below hD)
  clear r9_2
  have r10_3 := Lib.hid (r9_3.out.below hD)
  clear r9_3
  have r10_4 := Lib.hid (r9_4.out.below hD)
  clear r9_4
  have r10_5 := Lib.hid (r9_5.out.below hD)
  clear r9_5
  clear hD
  go_wp2_with fail
  go_region_with (first | (go_at_call 27; refine (toKept_c a0 b0 len0 len0' cap0 cap0' l0 m0 _ r10_0.out r10_1.out y0 y1).mono ?_; rintro e w7 ⟨A_y, C_y, D_y, E_y, rfl, o1, o2, hb7⟩; have k0 := below_keep hb7 _ _ c10_4; have k1 := below_keep hb7 _ _ c10_5) | (go_at_call 22; refine (eqKept_t A_x D_x A_y D_y len0 len0' C_x E_x C_y E_y l0 m0 _ (r10_4.out.below hb7) (r10_5.out.below hb7) (Rd.of_own o1) (Rd.of_own o2) y0 y1).mono ?_; rintro e w8 ⟨rfl, hb8⟩))
  all_goals (go_wp2; go_ret; exact ⟨rfl, (B10.trans (hb7.mono B10.size)).trans (hb8.mono (B10.trans (hb7.mono B10.size)).size)⟩)

/-! ### The row's step -/
theorem own : ownKnob Try.prog.godebug = none := by kernel_rfl
theorem laidOut : laidOutB Try.prog = true := by kernel_rfl
set_option maxRecDepth 100000 in
theorem lifted (os : Os) (started : os.Started) (H : Type) (enc : TypeId × Value → H) :
    ReturnsInHanded {} Try.checked os 6 .any (Rows.fnExactAskSpec.pre6 enc Try.prog Try.f6 Rows.fnExactAskRow.domain false) (Rows.fnExactAskSpec.post enc Try.prog Try.f6 false true false false) := by
  refine returnsInHanded_of_change (C := Try.checked) own started (by kernel_rfl) Try.func6
    (ChangeSpec.witness6 (enc := enc) (C := Try.checked) false ⟨#[], #[.agg #[.slice none 0 0, .slice none 0 0], .int .i64 0], []⟩ 8 (by kernel_rfl) (by kernel_rfl) (by kernel_rfl) (by kernel_rfl)) ?_
  intro W base args ds gs before hval0 hW hcnd _
  have hval : ∀ (j : Nat) t v, Try.f6.params[j]? = some t → args[j]? = some v → Value.okWide Try.prog W .any base t v := hval0
  have hW' := hW
  obtain ⟨p, q, hA0, hV, rfl, hfz, hnd⟩ := hW
  have hA : DataW.TrodAll enc Try.prog W 0 (fun _ => true) true Try.f6.params.toList args.toList ds p := hA0
  rw [Try.params6] at hA hval
  obtain ⟨v0, vs0, d0, ds0, p0, q0, hargs, rfl, rfl, h0, r0⟩ := trodAll_cons hA
  obtain ⟨v1, vs1, d1, ds1, p1, q1, rfl, rfl, rfl, h1, r1⟩ := trodAll_cons r0
  obtain ⟨rfl, rfl, rfl⟩ := trodAll_nil r1
  obtain rfl : args = #[v0, v1] := by cases args; simp_all
  obtain ⟨rfl, rfl⟩ := trodVars_none hV
  have k0 := h0
  have lt0 : ∀ x ∈ p0, x.block < W.heap.size := by obtain ⟨m, hm⟩ := k0; exact DataW.trod_lt m _ _ _ hm
  obtain ⟨c0, e0, y0, z0, n0, rfl, rfl, rfl, hy0, hz0⟩ := Go.Joins.open_agg2 Try.underlying35 (by kernel_rfl) (by kernel_rfl) (hval 0 35 v0 rfl rfl) h0
  obtain ⟨a0, len0, cap0, l0, rfl, w0⟩ := open_bools_f hy0
  obtain ⟨b0, len0', cap0', m0, rfl, u0⟩ := open_slots_f hz0
  have k1 := h1
  have lt1 : ∀ x ∈ p1, x.block < W.heap.size := by obtain ⟨m, hm⟩ := k1; exact DataW.trod_lt m _ _ _ hm
  obtain ⟨a1, rfl, rfl, rfl, w1⟩ := open_int Try.underlying3 (hval 1 3 v1 rfl rfl) h1
  clear hA0 hval0
  refine (walk a0 len0 cap0 l0 b0 len0' cap0' m0 a1 W w0 u0 w1).mono fun e W' ⟨he, bel⟩ => ?_
  subst he
  exact ⟨_, rfl, _, _, _, [], _, [], hW', trodAll_mk1 (shut_bool Try.underlying4 _), (trodAll_cons_mk (Below.trod laidOut (by kernel_rfl) (of_decide_eq_true (by kernel_rfl)) k0 bel lt0) (trodAll_cons_mk (Below.trod laidOut (by kernel_rfl) (of_decide_eq_true (by kernel_rfl)) k1 bel lt1) trodAll_mk0)), rfl, bel.frame _, fun h => by cases h⟩

theorem over : Rows.fnExactAskRow.holds Try.pinned (OpenSpec.ofChange Rows.fnExactAskSpec) :=
  OpenClaim.holds_of_wide 6 Try.f6 rfl rfl rfl rfl rfl rfl rfl ⟨rfl, rfl, rfl, rfl, rfl⟩ rfl rfl rfl rfl rfl (by kernel_rfl) Try.func6 (by kernel_rfl)
    (of_decide_eq_true (by kernel_rfl)) (by unfold Func.isWrapper; first | (rw [if_pos (by decide +kernel)]; kernel_rfl) | (rw [if_neg (by decide +kernel)]; exact ⟨rfl, rfl⟩))
    (fun os started H enc _ => lifted os started H enc)

/-- The statement. -/
theorem proved : Rows.FnExactAskSaid := over
#print axioms proved
end Go.Proofs.Ytlfnhfipnjgifaa.fnExactAsk
