/- The law FnExactWithSlot returns true for every input: the program's WithSlot answers as the reference's and leaves its arguments alone. No condition. -/
import Derived.Test.YtoignannpbnjoaaRows
import Derived.Test.YtoignannpbnjoaaOpen
import Derived.Test.YtoignannpbnjoaaWith
import Derived.WalkKit
import Derived.ProofKit
import Derived.OpenShut
import Derived.ShutString
import Derived.ChangeOld
import Derived.Below
import Derived.Handy
import Derived.Carry
import Derived.Lib.SmallJoins
import Derived.WalkLawsBesides
import Derived.WalkSpells
import Derived.Deep.RegionWith
import Derived.Deep.DeepCutAuto
namespace Go.Proofs.Ytoignannpbnjoaa.fnExactWithSlot
open Go.ChangeShapes Go.WideShapes Go.ChangeAt Go.RowKit
open Go.ChangeMaps (open_string shut_string)
set_option linter.unusedVariables false
set_option linter.unusedSimpArgs false

set_option maxHeartbeats 2000000 in
theorem walk (a0 : Option Addr) (len0 cap0 : Nat) (l0 : List Sl) (a1 : Int) (a2 b2 : Int) (w : World) (h0 : Rd w 2 a0 len0 (slotCells l0) ∧ len0 ≤ maxLen) (w1 : (Lit.int .i64 a1).wf = true) (w2 : (Lit.int .i64 a2).wf = true) (u2 : (Lit.int .i64 b2).wf = true) :
    Calls Try.prog 7 #[.slice a0 len0 cap0, .int .i64 a1, .agg #[.int .i64 a2, .int .i64 b2]] w fun e w' => e = .returned (.bool true) ∧ Below w.heap.size w w' := by
  obtain ⟨R0, m0⟩ := h0
  have g1 : a1 ≤ 9223372036854775807 := by simp [Lit.wf, IntKind.min, IntKind.max, IntKind.signed, IntKind.bits] at w1; omega
  clear w1
  clear w2 u2
  by_cases z0 : (len0 : Int) ≤ 1048576
  rotate_left
  · skip
    clear R0
    go_enter Try.func7, Try.ntmps7
    have B0 := Below.refl w.heap.size w
    go_wp2_with fail
    refine (szSlotS_n a0 len0 cap0 _ _ m0 (by omega) (by omega) (by omega)).mono ?_
    rintro e w' ⟨rfl, rfl⟩
    go_wp2
    go_ret
    exact ⟨rfl, (Below.refl _ _).alloc (Nat.le_refl _) _⟩
  have y0 : len0 ≤ 1048576 := by omega
  have B0 := Below.refl w.heap.size w
  have bin0 : (w.alloc (Obj.cells #[Value.int IntKind.i64 a2, Value.int IntKind.i64 b2] 37)).cell? ⟨w.heap.size, 0, none⟩ = some (.int .i64 a2) := by simp [go_sem]
  have bin1 : (w.alloc (Obj.cells #[Value.int IntKind.i64 a2, Value.int IntKind.i64 b2] 37)).cell? ⟨w.heap.size, 1, none⟩ = some (.int .i64 b2) := by simp [go_sem]
  have B1 := B0.alloc B0.size (Obj.cells #[Value.int IntKind.i64 a2, Value.int IntKind.i64 b2] 37)
  have S1 : w.heap.size + 1 ≤ (w.alloc (Obj.cells #[Value.int IntKind.i64 a2, Value.int IntKind.i64 b2] 37)).heap.size := by simp
  go_enter Try.func7, Try.ntmps7
  go_wp2_with fail
  generalize w.alloc (Obj.cells #[Value.int IntKind.i64 a2, Value.int IntKind.i64 b2] 37) = w1 at bin0 bin1 B1 S1 ⊢
  clear B0
  refine (szSlotS_y a0 len0 cap0 _ _ m0 (by omega) (by omega)).mono ?_
  rintro e w' ⟨rfl, rfl⟩
  go_upto_region 5 with fail
  go_cut [8] (fun s wc => ∃ A c, s = .slice A len0 c ∧ wc.ownsRow w1.heap.size 30 2 (.slice A len0 c) len0 (slotCells (withSlot l0 a1 (a2, b2))) ∧ Below w1.heap.size w1 wc)
  case first =>
    have Dd : Below w1.heap.size w1 w1.drew := (Below.refl _ _).drew
    have Ed : Below w.heap.size w w1.drew := B1.drew
    have e0 : w1.drew.cell? ⟨w.heap.size, 0, none⟩ = some (.int .i64 a2) := bin0
    have e1 : w1.drew.cell? ⟨w.heap.size, 1, none⟩ = some (.int .i64 b2) := bin1
    go_region_with (first | (go_at_call 17; refine (toSlotS_c a0 len0 cap0 l0 _ (R0.below (by assumption)) y0).mono ?_; rintro e v1 ⟨A1, c1, rfl, O1, hv1⟩; have D1 : Below w1.heap.size w1 v1 := below_step (by assumption) hv1; have E1 : Below w.heap.size w v1 := below_step (by assumption) hv1; have k0 : v1.cell? ⟨w.heap.size, 0, none⟩ = some (.int .i64 a2) := below_keep hv1 _ _ (by assumption); have k1 : v1.cell? ⟨w.heap.size, 1, none⟩ = some (.int .i64 b2) := below_keep hv1 _ _ (by assumption)) | (go_at_call 28; refine (toSlot_c _ _ _).mono ?_; rintro e v2 ⟨rfl, hv2⟩; have D2 : Below w1.heap.size w1 v2 := below_step (by assumption) hv2; have E2 : Below w.heap.size w v2 := below_step (by assumption) hv2; try (have O2 := own_kept (by assumption) hv2)) | (go_at_call 27; refine (sWithSlot_c a1 A1 len0 c1 l0 _ _ _ (Rd.of_own (by assumption)) y0).mono ?_; rintro e v3 ⟨A3, c3, rfl, O3, hv3⟩; have D3 : Below w1.heap.size w1 v3 := below_step (by assumption) hv3; have O4 : v3.ownsRow w1.heap.size 30 2 (.slice A3 len0 c3) len0 (slotCells (withSlot l0 a1 (a2, b2))) := own_base O3 (Below.size (by assumption))))
    all_goals (go_wp2_with fail; go_meet; exact ⟨A3, c3, rfl, O4, D3⟩)
  case rest =>
  obtain ⟨A_W, c_W, rfl, O_W, hb2⟩ := hcut
  have Z_W := O_W
  have S2 := hb2.size
  have B2 := B1.trans (hb2.mono B1.size)
  have bin0' := below_keep hb2 _ _ bin0
  clear bin0
  have bin1' := below_keep hb2 _ _ bin1
  clear bin1
  clear hb2 B1
  go_wp2_with fail
  refine (toSlotS_c a0 len0 cap0 l0 _ (R0.below B2) y0).mono ?_
  rintro e w3 ⟨A_x0, c_x0, rfl, O_x0, hb3⟩
  have Z_x0 := O_x0
  have S3 := hb3.size
  have B3 := B2.trans (hb3.mono B2.size)
  have O_W' := own_kept O_W hb3
  clear O_W
  have bin0'' := below_keep hb3 _ _ bin0'
  clear bin0'
  have bin1'' := below_keep hb3 _ _ bin1'
  clear bin1'
  clear hb3 B2
  go_wp2_with fail
  refine (toSlot_c _ _ _).mono ?_
  rintro e w4 ⟨rfl, hb4⟩
  have S4 := hb4.size
  have B4 := B3.trans (hb4.mono B3.size)
  have O_W'' := own_kept O_W' hb4
  clear O_W'
  have O_x0' := own_kept O_x0 hb4
  clear O_x0
  have bin0''' := below_keep hb4 _ _ bin0''
  clear bin0''
  have bin1''' := below_keep hb4 _ _ bin1''
  clear bin1''
  clear hb4 B3
  go_wp2_with fail
  refine (iWithSlot_c a1 A_x0 len0 c_x0 l0 a2 b2 _ (Rd.of_own O_x0') y0).mono ?_
  rintro e w5 ⟨A_G, c_G, rfl, O_G, hb5⟩
  have Z_G := O_G
  have S5 := hb5.size
  have B5 := B4.trans (hb5.mono B4.size)
  have O_W''' := own_kept O_W'' hb5
  clear O_W''
  have O_x0'' := own_kept O_x0' hb5
  clear O_x0'
  have bin0'''' := below_keep hb5 _ _ bin0'''
  clear bin0'''
  have bin1'''' := below_keep hb5 _ _ bin1'''
  clear bin1'''
  clear hb5 B4
  go_wp2_with fail
  refine (eqSlotS_t A_G A_W len0 c_G c_W ((withSlot l0 a1 (a2, b2))) _ (Rd.of_own O_G) (Rd.of_own O_W''') (by omega)).mono ?_
  rintro e w6 ⟨rfl, hb6⟩
  have S6 := hb6.size
  have B6 := B5.trans (hb6.mono B5.size)
  have O_W'''' := own_kept O_W''' hb6
  clear O_W'''
  have O_x0''' := own_kept O_x0'' hb6
  clear O_x0''
  have O_G' := own_kept O_G hb6
  clear O_G
  have bin0''''' := below_keep hb6 _ _ bin0''''
  clear bin0''''
  have bin1''''' := below_keep hb6 _ _ bin1''''
  clear bin1''''
  clear hb6 B5
  go_wp2_with fail
  refine (toSlotS_c a0 len0 cap0 l0 _ (R0.below B6) y0).mono ?_
  rintro e w7 ⟨A_y_0, c_y_0, rfl, O_y_0, hb7⟩
  have Z_y_0 := O_y_0
  have S7 := hb7.size
  have B7 := B6.trans (hb7.mono B6.size)
  have O_W''''' := own_kept O_W'''' hb7
  clear O_W''''
  have O_x0'''' := own_kept O_x0''' hb7
  clear O_x0'''
  have O_G'' := own_kept O_G' hb7
  clear O_G'
  have bin0'''''' := below_keep hb7 _ _ bin0'''''
  clear bin0'''''
  have bin1'''''' := below_keep hb7 _ _ bin1'''''
  clear bin1'''''
  clear hb7 B6
  go_wp2_with fail
  refine (eqSlotS_t A_x0 A_y_0 len0 c_x0 c_y_0 l0 _ (Rd.of_own O_x0'''') (Rd.of_own O_y_0) (by omega)).mono ?_
  rintro e w8 ⟨rfl, hb8⟩
  have S8 := hb8.size
  have B8 := B7.trans (hb8.mono B7.size)
  have O_W'''''' := own_kept O_W''''' hb8
  clear O_W'''''
  have O_x0''''' := own_kept O_x0'''' hb8
  clear O_x0''''
  have O_G''' := own_kept O_G'' hb8
  clear O_G''
  have O_y_0' := own_kept O_y_0 hb8
  clear O_y_0
  have bin0''''''' := below_keep hb8 _ _ bin0''''''
  clear bin0''''''
  have bin1''''''' := below_keep hb8 _ _ bin1''''''
  clear bin1''''''
  clear hb8 B7
  go_wp2_with fail
  refine (markSlotS_c A_x0 len0 c_x0 l0 1 _ _ O_x0''''' (by omega) (by omega) (by omega)).mono ?_
  rintro e w9 ⟨rfl, OM9, hg9⟩
  have B9 := below_marked B8 O_x0''''' (by omega) hg9
  have S9 := hg9.size
  have O_W''''''' := O_W''''''.kept hg9 (own_apart Z_W Z_x0 (by omega))
  clear O_W''''''
  have O_G'''' := O_G'''.kept hg9 (own_apart' Z_x0 Z_G (by omega))
  clear O_G'''
  have O_y_0'' := O_y_0'.kept hg9 (own_apart' Z_x0 Z_y_0 (by omega))
  clear O_y_0'
  have bin0'''''''' := hg9.cell bin0''''''' (fun he => by have := (Z_x0).lt _ he.symm; dsimp only at this; omega)
  clear bin0'''''''
  have bin1'''''''' := hg9.cell bin1''''''' (fun he => by have := (Z_x0).lt _ he.symm; dsimp only at this; omega)
  clear bin1'''''''
  clear hg9 B8 O_x0'''''
  go_wp2_with fail
  refine (eqSlotS_t A_G A_W len0 c_G c_W ((withSlot l0 a1 (a2, b2))) _ (Rd.of_own O_G'''') (Rd.of_own O_W''''''') (by omega)).mono ?_
  rintro e w10 ⟨rfl, hb10⟩
  have S10 := hb10.size
  have B10 := B9.trans (hb10.mono B9.size)
  have O_W'''''''' := own_kept O_W''''''' hb10
  clear O_W'''''''
  have OM9' := own_kept OM9 hb10
  clear OM9
  have O_G''''' := own_kept O_G'''' hb10
  clear O_G''''
  have O_y_0''' := own_kept O_y_0'' hb10
  clear O_y_0''
  have bin0''''''''' := below_keep hb10 _ _ bin0''''''''
  clear bin0''''''''
  have bin1''''''''' := below_keep hb10 _ _ bin1''''''''
  clear bin1''''''''
  clear hb10 B9
  go_wp2_with fail
  refine (markSlotS_c A_G len0 c_G ((withSlot l0 a1 (a2, b2))) 1 _ _ O_G''''' (by omega) (by omega) (by omega)).mono ?_
  rintro e w11 ⟨rfl, OM11, hg11⟩
  have B11 := below_marked B10 O_G''''' (by omega) hg11
  have S11 := hg11.size
  have O_W''''''''' := O_W''''''''.kept hg11 (own_apart Z_W Z_G (by omega))
  clear O_W''''''''
  have OM9'' := OM9'.kept hg11 (own_apart Z_x0 Z_G (by omega))
  clear OM9'
  have O_y_0'''' := O_y_0'''.kept hg11 (own_apart' Z_G Z_y_0 (by omega))
  clear O_y_0'''
  have bin0'''''''''' := hg11.cell bin0''''''''' (fun he => by have := (Z_G).lt _ he.symm; dsimp only at this; omega)
  clear bin0'''''''''
  have bin1'''''''''' := hg11.cell bin1''''''''' (fun he => by have := (Z_G).lt _ he.symm; dsimp only at this; omega)
  clear bin1'''''''''
  clear hg11 B10 O_G'''''
  go_wp2_with fail
  refine (heldSlotS_c A_G len0 c_G 1 _ (Rd.of_own OM11) (by omega) (by omega) (by omega)).mono ?_
  rintro e w' ⟨rfl, rfl⟩
  go_upto_region 24 with fail
  go_cut [14] (fun s wc => ∃ A c, s = .slice A len0 c ∧ wc.ownsRow w11.heap.size 30 2 (.slice A len0 c) len0 (slotCells (withSlot l0 a1 (a2, b2))) ∧ Below w11.heap.size w11 wc)
  case first =>
    have Dd : Below w11.heap.size w11 w11.drew := (Below.refl _ _).drew
    have Ed : Below w.heap.size w w11.drew := B11.drew
    have e0 : w11.drew.cell? ⟨w.heap.size, 0, none⟩ = some (.int .i64 a2) := bin0''''''''''
    have e1 : w11.drew.cell? ⟨w.heap.size, 1, none⟩ = some (.int .i64 b2) := bin1''''''''''
    go_region_with (first | (go_at_call 17; refine (toSlotS_c a0 len0 cap0 l0 _ (R0.below (by assumption)) y0).mono ?_; rintro e v1 ⟨A1, c1, rfl, O1, hv1⟩; have D1 : Below w11.heap.size w11 v1 := below_step (by assumption) hv1; have E1 : Below w.heap.size w v1 := below_step (by assumption) hv1; have k0 : v1.cell? ⟨w.heap.size, 0, none⟩ = some (.int .i64 a2) := below_keep hv1 _ _ (by assumption); have k1 : v1.cell? ⟨w.heap.size, 1, none⟩ = some (.int .i64 b2) := below_keep hv1 _ _ (by assumption)) | (go_at_call 28; refine (toSlot_c _ _ _).mono ?_; rintro e v2 ⟨rfl, hv2⟩; have D2 : Below w11.heap.size w11 v2 := below_step (by assumption) hv2; have E2 : Below w.heap.size w v2 := below_step (by assumption) hv2; try (have O2 := own_kept (by assumption) hv2)) | (go_at_call 29; refine (iWithSlot_c a1 A1 len0 c1 l0 _ _ _ (Rd.of_own (by assumption)) y0).mono ?_; rintro e v3 ⟨A3, c3, rfl, O3, hv3⟩; have D3 : Below w11.heap.size w11 v3 := below_step (by assumption) hv3; have O4 : v3.ownsRow w11.heap.size 30 2 (.slice A3 len0 c3) len0 (slotCells (withSlot l0 a1 (a2, b2))) := own_base O3 (Below.size (by assumption))))
    all_goals (go_wp2_with fail; go_meet; exact ⟨A3, c3, rfl, O4, D3⟩)
  case rest =>
  obtain ⟨A_H, c_H, rfl, O_H, hb12⟩ := hcut
  have Z_H := O_H
  have S12 := hb12.size
  have B12 := B11.trans (hb12.mono B11.size)
  have O_W'''''''''' := own_kept O_W''''''''' hb12
  clear O_W'''''''''
  have OM9''' := own_kept OM9'' hb12
  clear OM9''
  have OM11' := own_kept OM11 hb12
  clear OM11
  have O_y_0''''' := own_kept O_y_0'''' hb12
  clear O_y_0''''
  have bin0''''''''''' := below_keep hb12 _ _ bin0''''''''''
  clear bin0''''''''''
  have bin1''''''''''' := below_keep hb12 _ _ bin1''''''''''
  clear bin1''''''''''
  clear hb12 B11
  go_wp2_with fail
  refine (eqSlotS_t A_H A_W len0 c_H c_W ((withSlot l0 a1 (a2, b2))) _ (Rd.of_own O_H) (Rd.of_own O_W'''''''''') (by omega)).mono ?_
  rintro e w13 ⟨rfl, hb13⟩
  have S13 := hb13.size
  have B13 := B12.trans (hb13.mono B12.size)
  have O_W''''''''''' := own_kept O_W'''''''''' hb13
  clear O_W''''''''''
  have OM9'''' := own_kept OM9''' hb13
  clear OM9'''
  have OM11'' := own_kept OM11' hb13
  clear OM11'
  have O_y_0'''''' := own_kept O_y_0''''' hb13
  clear O_y_0'''''
  have O_H' := own_kept O_H hb13
  clear O_H
  have bin0'''''''''''' := below_keep hb13 _ _ bin0'''''''''''
  clear bin0'''''''''''
  have bin1'''''''''''' := below_keep hb13 _ _ bin1'''''''''''
  clear bin1'''''''''''
  clear hb13 B12
  go_wp2_with fail
  refine (heldSlotS_c A_G len0 c_G 1 _ (Rd.of_own OM11'') (by omega) (by omega) (by omega)).mono ?_
  rintro e w' ⟨rfl, rfl⟩
  go_wp2
  go_ret
  exact ⟨rfl, B13⟩

/-! ### The row's step -/
theorem own : ownKnob Try.prog.godebug = none := by kernel_rfl
theorem laidOut : laidOutB Try.prog = true := by kernel_rfl
set_option maxRecDepth 100000 in
theorem lifted (os : Os) (started : os.Started) (H : Type) (enc : TypeId × Value → H) :
    ReturnsInHanded {} Try.checked os 7 .any (Rows.fnExactWithSlotSpec.pre6 enc Try.prog Try.f7 Rows.fnExactWithSlotRow.domain false) (Rows.fnExactWithSlotSpec.post enc Try.prog Try.f7 false true false false) := by
  refine returnsInHanded_of_change (C := Try.checked) own started (by kernel_rfl) Try.func7
    (ChangeSpec.witness6 (enc := enc) (C := Try.checked) false ⟨#[], #[.slice none 0 0, .int .i64 0, .agg #[.int .i64 0, .int .i64 0]], []⟩ 8 (by kernel_rfl) (by kernel_rfl) (by kernel_rfl) (by kernel_rfl)) ?_
  intro W base args ds gs before hval0 hW hcnd _
  have hval : ∀ (j : Nat) t v, Try.f7.params[j]? = some t → args[j]? = some v → Value.okWide Try.prog W .any base t v := hval0
  have hW' := hW
  obtain ⟨p, q, hA0, hV, rfl, hfz, hnd⟩ := hW
  have hA : DataW.TrodAll enc Try.prog W 0 (fun _ => true) true Try.f7.params.toList args.toList ds p := hA0
  rw [Try.params7] at hA hval
  obtain ⟨v0, vs0, d0, ds0, p0, q0, hargs, rfl, rfl, h0, r0⟩ := trodAll_cons hA
  obtain ⟨v1, vs1, d1, ds1, p1, q1, rfl, rfl, rfl, h1, r1⟩ := trodAll_cons r0
  obtain ⟨v2, vs2, d2, ds2, p2, q2, rfl, rfl, rfl, h2, r2⟩ := trodAll_cons r1
  obtain ⟨rfl, rfl, rfl⟩ := trodAll_nil r2
  obtain rfl : args = #[v0, v1, v2] := by cases args; simp_all
  obtain ⟨rfl, rfl⟩ := trodVars_none hV
  have k0 := h0
  have lt0 : ∀ x ∈ p0, x.block < W.heap.size := by obtain ⟨m, hm⟩ := k0; exact DataW.trod_lt m _ _ _ hm
  obtain ⟨a0, len0, cap0, rfl⟩ := okWide_slice Try.underlying22 (hval 0 22 v0 rfl rfl)
  obtain ⟨l0, w0⟩ := open_slots k0
  have k1 := h1
  have lt1 : ∀ x ∈ p1, x.block < W.heap.size := by obtain ⟨m, hm⟩ := k1; exact DataW.trod_lt m _ _ _ hm
  obtain ⟨a1, rfl, rfl, rfl, w1⟩ := open_int Try.underlying3 (hval 1 3 v1 rfl rfl) h1
  have k2 := h2
  have lt2 : ∀ x ∈ p2, x.block < W.heap.size := by obtain ⟨m, hm⟩ := k2; exact DataW.trod_lt m _ _ _ hm
  obtain ⟨c2, e2, y2, z2, n2, rfl, rfl, rfl, hy2, hz2⟩ := Go.Joins.open_agg2 Try.underlying37 (by kernel_rfl) (by kernel_rfl) (hval 2 37 v2 rfl rfl) h2
  obtain ⟨a2, he2, rfl, w2⟩ := DataW.trod_int Try.underlying3 hy2
  obtain ⟨b2, hf2, rfl, u2⟩ := DataW.trod_int Try.underlying3 hz2
  simp at he2 hf2
  subst he2 hf2
  clear hA0 hval0
  refine (walk a0 len0 cap0 l0 a1 a2 b2 W w0 w1 w2 u2).mono fun e W' ⟨he, bel⟩ => ?_
  subst he
  exact ⟨_, rfl, _, _, _, [], _, [], hW', trodAll_mk1 (shut_bool Try.underlying4 _), (trodAll_cons_mk (Below.trod laidOut (by kernel_rfl) (of_decide_eq_true (by kernel_rfl)) k0 bel lt0) (trodAll_cons_mk (Below.trod laidOut (by kernel_rfl) (of_decide_eq_true (by kernel_rfl)) k1 bel lt1) (trodAll_cons_mk (Below.trod laidOut (by kernel_rfl) (of_decide_eq_true (by kernel_rfl)) k2 bel lt2) trodAll_mk0))), rfl, bel.frame _, fun h => by cases h⟩

theorem over : Rows.fnExactWithSlotRow.holds Try.pinned (OpenSpec.ofChange Rows.fnExactWithSlotSpec) :=
  OpenClaim.holds_of_wide 7 Try.f7 rfl rfl rfl rfl rfl rfl rfl ⟨rfl, rfl, rfl, rfl, rfl⟩ rfl rfl rfl rfl rfl (by kernel_rfl) Try.func7 (by kernel_rfl)
    (of_decide_eq_true (by kernel_rfl)) (by unfold Func.isWrapper; first | (rw [if_pos (by decide +kernel)]; kernel_rfl) | (rw [if_neg (by decide +kernel)]; exact ⟨rfl, rfl⟩))
    (fun os started H enc _ => lifted os started H enc)

/-- The statement. -/
theorem proved : Rows.FnExactWithSlotSaid := over
#print axioms proved
end Go.Proofs.Ytoignannpbnjoaa.fnExactWithSlot
