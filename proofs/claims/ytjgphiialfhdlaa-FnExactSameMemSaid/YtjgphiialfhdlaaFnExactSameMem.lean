/- The law FnExactSameMem returns true for every input: the program's SameMem answers as the reference's and leaves its arguments alone. No condition. -/
import Derived.Test.YtjgphiialfhdlaaRows
import Derived.Test.YtjgphiialfhdlaaOpenM
import Derived.Test.YtjgphiialfhdlaaMemF5
import Derived.WalkKit
import Derived.ProofKit
import Derived.OpenShut
import Derived.ShutString
import Derived.ChangeOld
import Derived.Below
import Derived.Handy
import Derived.Carry
import Derived.Lib.SmallJoins
import Derived.WalkLawsBesides
import Derived.WalkSpells
namespace Go.Proofs.Ytjgphiialfhdlaa.fnExactSameMem
open Go.ChangeShapes Go.WideShapes Go.ChangeAt Go.RowKit
open Go.ChangeMaps (open_string shut_string)
set_option linter.unusedVariables false
set_option linter.unusedSimpArgs false

set_option maxHeartbeats 2000000 in
theorem walk (a0 : Option Addr) (len0 cap0 : Nat) (l0 : List (List Int)) (a1 : Option Addr) (len1 cap1 : Nat) (l1 : List (List Int)) (w : World) (h0 : Mx w a0 len0 l0 ∧ len0 ≤ maxLen ∧ ∀ (i : Nat) (l : List Int), l0[i]? = some l → l.length ≤ maxLen) (h1 : Mx w a1 len1 l1 ∧ len1 ≤ maxLen ∧ ∀ (i : Nat) (l : List Int), l1[i]? = some l → l.length ≤ maxLen) :
    Calls Try.prog 10 #[.slice a0 len0 cap0, .slice a1 len1 cap1] w fun e w' => e = .returned (.bool true) ∧ Below w.heap.size w w' := by
  obtain ⟨R0, m0, q0⟩ := h0
  obtain ⟨R1, m1, q1⟩ := h1
  by_cases z0 : (len0 : Int) + sumLen l0 ≤ 1048576
  rotate_left
  · skip
    go_enter Try.func10, Try.ntmps10
    have B0 := Below.refl w.heap.size w
    go_wp2_with fail
    refine (szIntSS_n a0 len0 cap0 l0 _ _ R0 m0 q0 (by omega) (by omega) (by omega)).mono ?_
    rintro e w' ⟨rfl, rfl⟩
    go_wp2
    go_ret
    exact ⟨rfl, B0⟩
  by_cases z1 : (len1 : Int) + sumLen l1 ≤ (1048576 - len0 - sumLen l0)
  rotate_left
  · skip
    go_enter Try.func10, Try.ntmps10
    have B0 := Below.refl w.heap.size w
    go_wp2_with fail
    refine (szIntSS_y a0 len0 cap0 l0 _ _ R0 m0 q0 (by omega) (by omega)).mono ?_
    rintro e w' ⟨rfl, rfl⟩
    go_wp2_with fail
    refine (szIntSS_n a1 len1 cap1 l1 _ _ R1 m1 q1 (by omega) (by omega) (by omega)).mono ?_
    rintro e w' ⟨rfl, rfl⟩
    go_wp2
    go_ret
    exact ⟨rfl, B0⟩
  have y0 : len0 ≤ 1048576 := by omega
  have s0 : sumLen l0 ≤ 1048576 := by omega
  have r0 : Rows l0 := fun i l h => Nat.le_trans (sumLen_row l0 i l h) s0
  have y1 : len1 ≤ 1048576 := by omega
  have s1 : sumLen l1 ≤ 1048576 := by omega
  have r1 : Rows l1 := fun i l h => Nat.le_trans (sumLen_row l1 i l h) s1
  go_enter Try.func10, Try.ntmps10
  have B0 := Below.refl w.heap.size w
  go_wp2_with fail
  refine (szIntSS_y a0 len0 cap0 l0 _ _ R0 m0 q0 (by omega) (by omega)).mono ?_
  rintro e w' ⟨rfl, rfl⟩
  go_wp2_with fail
  refine (szIntSS_y a1 len1 cap1 l1 _ _ R1 m1 q1 (by omega) (by omega)).mono ?_
  rintro e w' ⟨rfl, rfl⟩
  clear q0 q1
  go_wp2_with fail
  refine (toIntSS_c a0 len0 cap0 l0 _ (R0.below B0) y0 r0).mono ?_
  rintro e w1 ⟨A_t0, c_t0, v_t0, rfl, O_t0, hb1⟩
  have Z_t0 := O_t0
  have S1 := hb1.size
  have B1 := B0.trans (hb1.mono B0.size)
  clear hb1 B0
  go_wp2_with fail
  refine (toIntSS_c a1 len1 cap1 l1 _ (R1.below B1) y1 r1).mono ?_
  rintro e w2 ⟨A_t1, c_t1, v_t1, rfl, O_t1, hb2⟩
  have Z_t1 := O_t1
  have S2 := hb2.size
  have B2 := B1.trans (hb2.mono B1.size)
  have O_t0' := O_t0.kept hb2
  clear O_t0
  clear hb2 B1
  go_wp2_with fail
  refine (sSameMem_c A_t0 A_t1 len0 len1 c_t0 c_t1 l0 l1 _ (O_t0'.mx) (O_t1.mx) y0 y1 r0 r1).mono ?_
  rintro e w3 ⟨rfl, hb3⟩
  have S3 := hb3.size
  have B3 := B2.trans (hb3.mono B2.size)
  have O_t0'' := O_t0'.kept hb3
  clear O_t0'
  have O_t1' := O_t1.kept hb3
  clear O_t1
  clear hb3 B2
  go_wp2_with fail
  refine (toIntSS_c a0 len0 cap0 l0 _ (R0.below B3) y0 r0).mono ?_
  rintro e w4 ⟨A_x0, c_x0, v_x0, rfl, O_x0, hb4⟩
  have Z_x0 := O_x0
  have S4 := hb4.size
  have B4 := B3.trans (hb4.mono B3.size)
  have O_t0''' := O_t0''.kept hb4
  clear O_t0''
  have O_t1'' := O_t1'.kept hb4
  clear O_t1'
  clear hb4 B3
  go_wp2_with fail
  refine (toIntSS_c a1 len1 cap1 l1 _ (R1.below B4) y1 r1).mono ?_
  rintro e w5 ⟨A_x1, c_x1, v_x1, rfl, O_x1, hb5⟩
  have Z_x1 := O_x1
  have S5 := hb5.size
  have B5 := B4.trans (hb5.mono B4.size)
  have O_t0'''' := O_t0'''.kept hb5
  clear O_t0'''
  have O_t1''' := O_t1''.kept hb5
  clear O_t1''
  have O_x0' := O_x0.kept hb5
  clear O_x0
  clear hb5 B4
  go_wp2_with fail
  refine (iSameMem_c A_x0 A_x1 len0 len1 c_x0 c_x1 l0 l1 _ (O_x0'.mx) (O_x1.mx) y0 y1 r0 r1).mono ?_
  rintro e w6 ⟨rfl, hb6⟩
  have S6 := hb6.size
  have B6 := B5.trans (hb6.mono B5.size)
  have O_t0''''' := O_t0''''.kept hb6
  clear O_t0''''
  have O_t1'''' := O_t1'''.kept hb6
  clear O_t1'''
  have O_x0'' := O_x0'.kept hb6
  clear O_x0'
  have O_x1' := O_x1.kept hb6
  clear O_x1
  clear hb6 B5
  go_wp2_with fail
  refine (toIntSS_c a0 len0 cap0 l0 _ (R0.below B6) y0 r0).mono ?_
  rintro e w7 ⟨A_y_0, c_y_0, v_y_0, rfl, O_y_0, hb7⟩
  have Z_y_0 := O_y_0
  have S7 := hb7.size
  have B7 := B6.trans (hb7.mono B6.size)
  have O_t0'''''' := O_t0'''''.kept hb7
  clear O_t0'''''
  have O_t1''''' := O_t1''''.kept hb7
  clear O_t1''''
  have O_x0''' := O_x0''.kept hb7
  clear O_x0''
  have O_x1'' := O_x1'.kept hb7
  clear O_x1'
  clear hb7 B6
  go_wp2_with fail
  refine (eqIntSS_t A_x0 A_y_0 len0 c_x0 c_y_0 l0 _ (O_x0'''.mx) (O_y_0.mx) (by omega) r0).mono ?_
  rintro e w8 ⟨rfl, hb8⟩
  have S8 := hb8.size
  have B8 := B7.trans (hb8.mono B7.size)
  have O_t0''''''' := O_t0''''''.kept hb8
  clear O_t0''''''
  have O_t1'''''' := O_t1'''''.kept hb8
  clear O_t1'''''
  have O_x0'''' := O_x0'''.kept hb8
  clear O_x0'''
  have O_x1''' := O_x1''.kept hb8
  clear O_x1''
  have O_y_0' := O_y_0.kept hb8
  clear O_y_0
  clear hb8 B7
  go_wp2_with fail
  refine (toIntSS_c a1 len1 cap1 l1 _ (R1.below B8) y1 r1).mono ?_
  rintro e w9 ⟨A_y_1, c_y_1, v_y_1, rfl, O_y_1, hb9⟩
  have Z_y_1 := O_y_1
  have S9 := hb9.size
  have B9 := B8.trans (hb9.mono B8.size)
  have O_t0'''''''' := O_t0'''''''.kept hb9
  clear O_t0'''''''
  have O_t1''''''' := O_t1''''''.kept hb9
  clear O_t1''''''
  have O_x0''''' := O_x0''''.kept hb9
  clear O_x0''''
  have O_x1'''' := O_x1'''.kept hb9
  clear O_x1'''
  have O_y_0'' := O_y_0'.kept hb9
  clear O_y_0'
  clear hb9 B8
  go_wp2_with fail
  refine (eqIntSS_t A_x1 A_y_1 len1 c_x1 c_y_1 l1 _ (O_x1''''.mx) (O_y_1.mx) (by omega) r1).mono ?_
  rintro e w10 ⟨rfl, hb10⟩
  have S10 := hb10.size
  have B10 := B9.trans (hb10.mono B9.size)
  have O_t0''''''''' := O_t0''''''''.kept hb10
  clear O_t0''''''''
  have O_t1'''''''' := O_t1'''''''.kept hb10
  clear O_t1'''''''
  have O_x0'''''' := O_x0'''''.kept hb10
  clear O_x0'''''
  have O_x1''''' := O_x1''''.kept hb10
  clear O_x1''''
  have O_y_0''' := O_y_0''.kept hb10
  clear O_y_0''
  have O_y_1' := O_y_1.kept hb10
  clear O_y_1
  clear hb10 B9
  go_wp2
  go_ret
  exact ⟨rfl, B10⟩

/-! ### The row's step -/
theorem own : ownKnob Try.prog.godebug = none := by kernel_rfl
theorem laidOut : laidOutB Try.prog = true := by kernel_rfl
set_option maxRecDepth 100000 in
theorem lifted (os : Os) (started : os.Started) (H : Type) (enc : TypeId × Value → H) :
    ReturnsInHanded {} Try.checked os 10 .any (Rows.fnExactSameMemSpec.pre6 enc Try.prog Try.f10 Rows.fnExactSameMemRow.domain false) (Rows.fnExactSameMemSpec.post enc Try.prog Try.f10 false true false false) := by
  refine returnsInHanded_of_change (C := Try.checked) own started (by kernel_rfl) Try.func10
    (ChangeSpec.witness6 (enc := enc) (C := Try.checked) false ⟨#[], #[.slice none 0 0, .slice none 0 0], []⟩ 8 (by kernel_rfl) (by kernel_rfl) (by kernel_rfl) (by kernel_rfl)) ?_
  intro W base args ds gs before hval0 hW hcnd _
  have hval : ∀ (j : Nat) t v, Try.f10.params[j]? = some t → args[j]? = some v → Value.okWide Try.prog W .any base t v := hval0
  have hW' := hW
  obtain ⟨p, q, hA0, hV, rfl, hfz, hnd⟩ := hW
  have hA : DataW.TrodAll enc Try.prog W 0 (fun _ => true) true Try.f10.params.toList args.toList ds p := hA0
  rw [Try.params10] at hA hval
  obtain ⟨v0, vs0, d0, ds0, p0, q0, hargs, rfl, rfl, h0, r0⟩ := trodAll_cons hA
  obtain ⟨v1, vs1, d1, ds1, p1, q1, rfl, rfl, rfl, h1, r1⟩ := trodAll_cons r0
  obtain ⟨rfl, rfl, rfl⟩ := trodAll_nil r1
  obtain rfl : args = #[v0, v1] := by cases args; simp_all
  obtain ⟨rfl, rfl⟩ := trodVars_none hV
  have k0 := h0
  have lt0 : ∀ x ∈ p0, x.block < W.heap.size := by obtain ⟨m, hm⟩ := k0; exact DataW.trod_lt m _ _ _ hm
  obtain ⟨a0, len0, cap0, rfl⟩ := okWide_slice Try.underlying26 (hval 0 26 v0 rfl rfl)
  obtain ⟨l0, w0⟩ := opn_intss k0
  have k1 := h1
  have lt1 : ∀ x ∈ p1, x.block < W.heap.size := by obtain ⟨m, hm⟩ := k1; exact DataW.trod_lt m _ _ _ hm
  obtain ⟨a1, len1, cap1, rfl⟩ := okWide_slice Try.underlying26 (hval 1 26 v1 rfl rfl)
  obtain ⟨l1, w1⟩ := opn_intss k1
  clear hA0 hval0
  refine (walk a0 len0 cap0 l0 a1 len1 cap1 l1 W w0 w1).mono fun e W' ⟨he, bel⟩ => ?_
  subst he
  exact ⟨_, rfl, _, _, _, [], _, [], hW', trodAll_mk1 (shut_bool Try.underlying4 _), (trodAll_cons_mk (Below.trod laidOut (by kernel_rfl) (of_decide_eq_true (by kernel_rfl)) k0 bel lt0) (trodAll_cons_mk (Below.trod laidOut (by kernel_rfl) (of_decide_eq_true (by kernel_rfl)) k1 bel lt1) trodAll_mk0)), rfl, bel.frame _, fun h => by cases h⟩

theorem over : Rows.fnExactSameMemRow.holds Try.pinned (OpenSpec.ofChange Rows.fnExactSameMemSpec) :=
  OpenClaim.holds_of_wide 10 Try.f10 rfl rfl rfl rfl rfl rfl rfl ⟨rfl, rfl, rfl, rfl, rfl⟩ rfl rfl rfl rfl rfl (by kernel_rfl) Try.func10 (by kernel_rfl)
    (of_decide_eq_true (by kernel_rfl)) (by unfold Func.isWrapper; first | (rw [if_pos (by decide +kernel)]; kernel_rfl) | (rw [if_neg (by decide +kernel)]; exact ⟨rfl, rfl⟩))
    (fun os started H enc _ => lifted os started H enc)

/-- The statement. -/
theorem proved : Rows.FnExactSameMemSaid := over
#print axioms proved
end Go.Proofs.Ytjgphiialfhdlaa.fnExactSameMem
