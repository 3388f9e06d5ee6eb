/- The law FnPutTwice returns true for every input. No condition. -/
import Derived.Test.YtlfnhfipnjgifaaRows
import Derived.Test.YtlfnhfipnjgifaaOpenB
import Derived.Test.YtlfnhfipnjgifaaDrawS
import Derived.Test.YtlfnhfipnjgifaaWith
import Derived.Test.YtlfnhfipnjgifaaLoops1
import Derived.Test.YtlfnhfipnjgifaaLoops2
import Derived.Test.YtlfnhfipnjgifaaRep
import Derived.Test.YtlfnhfipnjgifaaSameS
import Derived.Test.YtlfnhfipnjgifaaLawT
import Derived.WalkKit
import Derived.ProofKit
import Derived.OpenShut
import Derived.ShutString
import Derived.ChangeOld
import Derived.Below
import Derived.Handy
import Derived.Carry
import Derived.Lib.SmallJoins
import Derived.WalkLawsBesides
import Derived.WalkSpells
import Derived.BigQuiet
import Derived.Deep.QuietTactic
import Derived.Outline
import Derived.Deep.RegionWith
import Derived.Deep.DeepCutAuto
namespace Go.Proofs.Ytlfnhfipnjgifaa.fnPutTwice
open Go.ChangeShapes Go.WideShapes Go.ChangeAt Go.RowKit
open Go.ChangeMaps (open_string shut_string)
set_option linter.unusedVariables false
set_option linter.unusedSimpArgs false

abbrev KBx (w : World) (b : Nat) (x y : Int) : Prop := Box w b x y
set_option maxHeartbeats 4000000 in
set_option maxRecDepth 20000 in
theorem walk (a0 : Option Addr) (len0 cap0 : Nat) (l0 : Nat) (w : World) (h0 : Bytes w w.heap.size a0 len0 ∧ len0 ≤ maxLen) :
    Calls Try.prog 8 #[.slice a0 len0 cap0] w fun e w' => e = .returned (.bool true) ∧ Below w.heap.size w w' := by
  obtain ⟨hb, hm⟩ := h0
  by_cases hbig : 1048576 < len0
  · go_enter Try.func8, Try.ntmps8
    go_wp2_with fail
    refine (big_c _ _ _ _ hm).mono ?_
    rintro e w' ⟨rfl, rfl⟩
    rw [decide_eq_true hbig]
    go_wp2
    go_ret
    exact ⟨rfl, Below.refl _ _⟩
  have hle : len0 ≤ 1048576 := by omega
  have HB := Lib.hid hb
  clear hb
  go_enter Try.func8, Try.ntmps8
  go_wp2_with fail
  refine (big_c _ _ _ _ hm).mono ?_
  rintro e w' ⟨rfl, rfl⟩
  rw [decide_eq_false hbig]
  clear hbig hm
  have B0 := Below.refl w.heap.size w
  go_wp2_with fail
  refine (DrawPlaces_c a0 len0 cap0 _ HB.out hle).mono ?_
  rintro e w1 ⟨G, cc, l, rfl, hl, hr, hown, hb⟩
  have RG := Lib.hid (Rd.of_own hown)
  have HR := Lib.hid hr
  clear hown hr
  have B1 := B0.trans (hb.mono B0.size)
  clear B0
  have HB1 := Lib.hid (HB.out.grow hb)
  clear HB
  clear hb
  clear HB1
  have HK4 : Hid (brought 4 0 24 = ((4 : Nat) : Int)) := Lib.hid (by decide)
  go_wp2_with fail
  refine (iTableNew_k HK4.out _).mono ?_
  rintro e w2 ⟨A_T, c_T, rfl, own, hb⟩
  have Q := Lib.hid (Rd.of_own own)
  clear own
  have B2 := B1.trans (hb.mono B1.size)
  clear B1
  have r2_0 := Lib.hid (RG.out.below hb)
  clear RG
  clear hb
  have R_T := Q
  clear Q
  obtain ⟨bG, oG, rfl, hcG⟩ := r2_0.out.2 (by omega)
  obtain ⟨y0, g0, n0⟩ : ∃ y : Int, w2.cell? ⟨bG, oG + 0, none⟩ = some (.int .i64 y) ∧ (0 ≤ y ∧ y ≤ 9999) := ⟨_, hcG 0 (.int .i64 (l[0]'(by omega))) (by simp [intCells, List.getElem?_eq_getElem (show 0 < l.length by omega)]), HR.out _ (List.getElem_mem (show 0 < l.length by omega))⟩
  obtain ⟨y1, g1, n1⟩ : ∃ y : Int, w2.cell? ⟨bG, oG + 1, none⟩ = some (.int .i64 y) ∧ (0 ≤ y ∧ y ≤ 9999) := ⟨_, hcG 1 (.int .i64 (l[1]'(by omega))) (by simp [intCells, List.getElem?_eq_getElem (show 1 < l.length by omega)]), HR.out _ (List.getElem_mem (show 1 < l.length by omega))⟩
  obtain ⟨y2, g2, n2⟩ : ∃ y : Int, w2.cell? ⟨bG, oG + 2, none⟩ = some (.int .i64 y) ∧ (0 ≤ y ∧ y ≤ 9999) := ⟨_, hcG 2 (.int .i64 (l[2]'(by omega))) (by simp [intCells, List.getElem?_eq_getElem (show 2 < l.length by omega)]), HR.out _ (List.getElem_mem (show 2 < l.length by omega))⟩
  obtain ⟨y3, g3, n3⟩ : ∃ y : Int, w2.cell? ⟨bG, oG + 3, none⟩ = some (.int .i64 y) ∧ (0 ≤ y ∧ y ≤ 9999) := ⟨_, hcG 3 (.int .i64 (l[3]'(by omega))) (by simp [intCells, List.getElem?_eq_getElem (show 3 < l.length by omega)]), HR.out _ (List.getElem_mem (show 3 < l.length by omega))⟩
  obtain ⟨y4, g4, n4⟩ : ∃ y : Int, w2.cell? ⟨bG, oG + 4, none⟩ = some (.int .i64 y) ∧ (0 ≤ y ∧ y ≤ 9999) := ⟨_, hcG 4 (.int .i64 (l[4]'(by omega))) (by simp [intCells, List.getElem?_eq_getElem (show 4 < l.length by omega)]), HR.out _ (List.getElem_mem (show 4 < l.length by omega))⟩
  obtain ⟨y5, g5, n5⟩ : ∃ y : Int, w2.cell? ⟨bG, oG + 5, none⟩ = some (.int .i64 y) ∧ (0 ≤ y ∧ y ≤ 9999) := ⟨_, hcG 5 (.int .i64 (l[5]'(by omega))) (by simp [intCells, List.getElem?_eq_getElem (show 5 < l.length by omega)]), HR.out _ (List.getElem_mem (show 5 < l.length by omega))⟩
  rw [Nat.add_zero] at g0
  clear hcG hl HR
  obtain ⟨p_a, hp_a⟩ : ∃ q, y0 % 8 = q := ⟨_, rfl⟩
  obtain ⟨r_a, hr_a⟩ : ∃ q, 1 + y1 % 3 = q := ⟨_, rfl⟩
  have hpr_a : (0 ≤ p_a ∧ p_a ≤ 7) ∧ (1 ≤ r_a ∧ r_a ≤ 3) := by omega
  go_upto_region 5 with fail
  go_cut [5] (fun s wc => s = .pointer (some ⟨w2.heap.size, 0, none⟩) ∧ Hid (KBx wc w2.heap.size p_a r_a) ∧ Below w2.heap.size w2 wc)
  case first =>
    have hA := (Below.refl w2.heap.size w2).alloc (Nat.le_refl _) (.cells #[.int .i64 0, .int .i64 0] 41)
    have e2 := below_keep hA _ _ g0
    have e3 := below_keep hA _ _ g1
    clear hA
    have ty : y0.tmod 8 = p_a := by rw [← hp_a]; exact Int.tmod_eq_emod_of_nonneg n0.1
    have tz : y1.tmod 3 = r_a - 1 := by rw [Int.tmod_eq_emod_of_nonneg n1.1]; omega
    have wy : IntKind.i64.wrap p_a = p_a := IntWalk.i64_in _ (by omega)
    have wz : IntKind.i64.wrap (r_a - 1) = r_a - 1 := IntWalk.i64_in _ (by omega)
    have wz1 : IntKind.i64.wrap (1 + (r_a - 1)) = r_a := by rw [IntWalk.i64_in _ (by omega)]; omega
    clear hp_a hr_a
    go_region_with (fail)
    all_goals (go_wp2_with fail; go_meet; exact ⟨rfl, Lib.hid (Box.new w2 p_a r_a), ((Below.refl w2.heap.size w2).alloc (Nat.le_refl _) _).drew⟩)
  case rest =>
  obtain ⟨rfl, K_a, hb⟩ := hcut
  have k0_a := K_a.out.c0
  have k1_a := K_a.out.c1
  clear K_a
  obtain ⟨w3, hwc⟩ : ∃ x, x = wc := ⟨_, rfl⟩
  subst hwc
  have B3 := B2.trans (hb.mono B2.size)
  clear B2
  have c3_0 := below_keep hb _ _ g0
  clear g0
  have c3_1 := below_keep hb _ _ g1
  clear g1
  have c3_2 := below_keep hb _ _ g2
  clear g2
  have c3_3 := below_keep hb _ _ g3
  clear g3
  have c3_4 := below_keep hb _ _ g4
  clear g4
  have c3_5 := below_keep hb _ _ g5
  clear g5
  have r3_0 := Lib.hid (R_T.out.below hb)
  clear R_T
  clear hb
  obtain ⟨p_b, hp_b⟩ : ∃ q, y2 % 8 = q := ⟨_, rfl⟩
  obtain ⟨r_b, hr_b⟩ : ∃ q, 1 + y3 % 3 = q := ⟨_, rfl⟩
  have hpr_b : (0 ≤ p_b ∧ p_b ≤ 7) ∧ (1 ≤ r_b ∧ r_b ≤ 3) := by omega
  go_upto_region 6 with fail
  go_cut [6] (fun s wc => s = .pointer (some ⟨w3.heap.size, 0, none⟩) ∧ Hid (KBx wc w3.heap.size p_b r_b) ∧ Below w3.heap.size w3 wc)
  case first =>
    have hA := (Below.refl w3.heap.size w3).alloc (Nat.le_refl _) (.cells #[.int .i64 0, .int .i64 0] 41)
    have e2 := below_keep hA _ _ c3_2
    have e3 := below_keep hA _ _ c3_3
    clear hA
    have ty : y2.tmod 8 = p_b := by rw [← hp_b]; exact Int.tmod_eq_emod_of_nonneg n2.1
    have tz : y3.tmod 3 = r_b - 1 := by rw [Int.tmod_eq_emod_of_nonneg n3.1]; omega
    have wy : IntKind.i64.wrap p_b = p_b := IntWalk.i64_in _ (by omega)
    have wz : IntKind.i64.wrap (r_b - 1) = r_b - 1 := IntWalk.i64_in _ (by omega)
    have wz1 : IntKind.i64.wrap (1 + (r_b - 1)) = r_b := by rw [IntWalk.i64_in _ (by omega)]; omega
    clear hp_b hr_b
    go_region_with (fail)
    all_goals (go_wp2_with fail; go_meet; exact ⟨rfl, Lib.hid (Box.new w3 p_b r_b), ((Below.refl w3.heap.size w3).alloc (Nat.le_refl _) _).drew⟩)
  case rest =>
  obtain ⟨rfl, K_b, hb⟩ := hcut
  have k0_b := K_b.out.c0
  have k1_b := K_b.out.c1
  clear K_b
  obtain ⟨w4, hwc⟩ : ∃ x, x = wc := ⟨_, rfl⟩
  subst hwc
  have B4 := B3.trans (hb.mono B3.size)
  clear B3
  have c4_0 := below_keep hb _ _ c3_0
  clear c3_0
  have c4_1 := below_keep hb _ _ c3_1
  clear c3_1
  have c4_2 := below_keep hb _ _ c3_2
  clear c3_2
  have c4_3 := below_keep hb _ _ c3_3
  clear c3_3
  have c4_4 := below_keep hb _ _ c3_4
  clear c3_4
  have c4_5 := below_keep hb _ _ c3_5
  clear c3_5
  have c4_6 := below_keep hb _ _ k0_a
  clear k0_a
  have c4_7 := below_keep hb _ _ k1_a
  clear k1_a
  have r4_0 := Lib.hid (r3_0.out.below hb)
  clear r3_0
  clear hb
  obtain ⟨i, hi⟩ : ∃ i : Nat, y4 % 4 = i := Int.eq_ofNat_of_zero_le (by omega)
  obtain ⟨k, hk⟩ : ∃ k : Nat, y5 % 4 = k := Int.eq_ofNat_of_zero_le (by omega)
  have hi4 : i < 4 := by omega
  have hk4 : k < 4 := by omega
  have ty4 : y4.tmod 4 = i := by rw [← hi]; exact Int.tmod_eq_emod_of_nonneg n4.1
  have ty5 : y5.tmod 4 = k := by rw [← hk]; exact Int.tmod_eq_emod_of_nonneg n5.1
  obtain ⟨T1, T2, T3, T4⟩ := put_law i k hi4 hk4 (p_a, r_a) (p_b, r_b) hpr_a hpr_b
  have F1 := Lib.hid T1
  have F2 := Lib.hid T2
  have F3 := Lib.hid T3
  have F4 := Lib.hid T4
  clear T1 T2 T3 T4
  have q4 : ∀ x : Ext w4, x.w.cell? _ = _ := fun x => (x.cell (World.block_lt_of_cell? _ _ c4_4)).trans c4_4
  have q5 : ∀ x : Ext w4, x.w.cell? _ = _ := fun x => (x.cell (World.block_lt_of_cell? _ _ c4_5)).trans c4_5
  go_wp2_with fail
  refine wp_region_ext (by kernel_rfl) (by kernel_rfl) ?_
  repeat (go_big_quiet_step (fail))
  refine wpQuiet_nil ?_
  intro w5 hw'
  have hb := Ext.out hw'
  clear hw' q4 q5
  have B5 := B4.trans (hb.mono B4.size)
  clear B4
  have c5_0 := below_keep hb _ _ c4_0
  clear c4_0
  have c5_1 := below_keep hb _ _ c4_1
  clear c4_1
  have c5_2 := below_keep hb _ _ c4_2
  clear c4_2
  have c5_3 := below_keep hb _ _ c4_3
  clear c4_3
  have c5_4 := below_keep hb _ _ c4_4
  clear c4_4
  have c5_5 := below_keep hb _ _ c4_5
  clear c4_5
  have c5_6 := below_keep hb _ _ c4_6
  clear c4_6
  have c5_7 := below_keep hb _ _ c4_7
  clear c4_7
  have c5_8 := below_keep hb _ _ k0_b
  clear k0_b
  have c5_9 := below_keep hb _ _ k1_b
  clear k1_b
  have r5_0 := Lib.hid (r4_0.out.below hb)
  clear r4_0
  clear hb
  go_upto_region 8 with fail
  go_cut [9] (fun s wc => ∃ A c, s = .slice A 4 c ∧ Hid (Rd wc 2 A 4 (slotCells (withSlot (withSlot (List.replicate 4 noSlot) i (p_a, r_a)) k (p_b, r_b)))) ∧ Below w5.heap.size w5 wc)
  case first =>
    have hD := (Below.refl w5.heap.size w5).drew
    have RD : Hid (Rd w5.drew 2 A_T 4 (slotCells (List.replicate 4 noSlot))) := Lib.hid r5_0.out
    have z0 : w5.drew.cell? _ = _ := c5_6
    have z1 : w5.drew.cell? _ = _ := c5_7
    have z2 : w5.drew.cell? _ = _ := c5_8
    have z3 : w5.drew.cell? _ = _ := c5_9
    go_region_with (go_at_call 41; first | ((with_reducible refine (iWithSlot_c i A_T 4 c_T (List.replicate 4 noSlot) p_a r_a _ RD.out (by omega)).mono ?_); rintro e v1 ⟨A1, c1, rfl, O1, g1⟩; have j0 := below_keep g1 _ _ z0; have j1 := below_keep g1 _ _ z1; have j2 := below_keep g1 _ _ z2; have j3 := below_keep g1 _ _ z3) | ((with_reducible refine (iWithSlot_c k A1 4 c1 (withSlot (List.replicate 4 noSlot) i (p_a, r_a)) p_b r_b _ (Rd.of_own O1) (by omega)).mono ?_); rintro e v2 ⟨A2, c2, rfl, O2, g2⟩))
    all_goals (go_wp2_with fail; go_meet; exact ⟨A2, c2, rfl, Lib.hid (Rd.of_own O2), (hD.trans (g1.mono hD.size)).trans (g2.mono (hD.trans (g1.mono hD.size)).size)⟩)
  case rest =>
  obtain ⟨A_X, c_X, rfl, Q, hb⟩ := hcut
  obtain ⟨w6, hwc⟩ : ∃ x, x = wc := ⟨_, rfl⟩
  subst hwc
  have B6 := B5.trans (hb.mono B5.size)
  clear B5
  have c6_0 := below_keep hb _ _ c5_0
  clear c5_0
  have c6_1 := below_keep hb _ _ c5_1
  clear c5_1
  have c6_2 := below_keep hb _ _ c5_2
  clear c5_2
  have c6_3 := below_keep hb _ _ c5_3
  clear c5_3
  have c6_4 := below_keep hb _ _ c5_4
  clear c5_4
  have c6_5 := below_keep hb _ _ c5_5
  clear c5_5
  have c6_6 := below_keep hb _ _ c5_6
  clear c5_6
  have c6_7 := below_keep hb _ _ c5_7
  clear c5_7
  have c6_8 := below_keep hb _ _ c5_8
  clear c5_8
  have c6_9 := below_keep hb _ _ c5_9
  clear c5_9
  have r6_0 := Lib.hid (r5_0.out.below hb)
  clear r5_0
  clear hb
  have R_X := Q
  clear Q
  go_upto_region 9 with fail
  go_cut [10] (fun s wc => ∃ A c, s = .slice A 4 c ∧ Hid (Rd wc 2 A 4 (slotCells (withSlot (withSlot (List.replicate 4 noSlot) k (p_b, r_b)) i (p_a, r_a)))) ∧ Below w6.heap.size w6 wc)
  case first =>
    have hD := (Below.refl w6.heap.size w6).drew
    have RD : Hid (Rd w6.drew 2 A_T 4 (slotCells (List.replicate 4 noSlot))) := Lib.hid r6_0.out
    have z0 : w6.drew.cell? _ = _ := c6_6
    have z1 : w6.drew.cell? _ = _ := c6_7
    have z2 : w6.drew.cell? _ = _ := c6_8
    have z3 : w6.drew.cell? _ = _ := c6_9
    go_region_with (go_at_call 41; first | ((with_reducible refine (iWithSlot_c k A_T 4 c_T (List.replicate 4 noSlot) p_b r_b _ RD.out (by omega)).mono ?_); rintro e v1 ⟨A1, c1, rfl, O1, g1⟩; have j0 := below_keep g1 _ _ z0; have j1 := below_keep g1 _ _ z1; have j2 := below_keep g1 _ _ z2; have j3 := below_keep g1 _ _ z3) | ((with_reducible refine (iWithSlot_c i A1 4 c1 (withSlot (List.replicate 4 noSlot) k (p_b, r_b)) p_a r_a _ (Rd.of_own O1) (by omega)).mono ?_); rintro e v2 ⟨A2, c2, rfl, O2, g2⟩))
    all_goals (go_wp2_with fail; go_meet; exact ⟨A2, c2, rfl, Lib.hid (Rd.of_own O2), (hD.trans (g1.mono hD.size)).trans (g2.mono (hD.trans (g1.mono hD.size)).size)⟩)
  case rest =>
  obtain ⟨A_Y, c_Y, rfl, Q, hb⟩ := hcut
  obtain ⟨w7, hwc⟩ : ∃ x, x = wc := ⟨_, rfl⟩
  subst hwc
  have B7 := B6.trans (hb.mono B6.size)
  clear B6
  have c7_0 := below_keep hb _ _ c6_0
  clear c6_0
  have c7_1 := below_keep hb _ _ c6_1
  clear c6_1
  have c7_2 := below_keep hb _ _ c6_2
  clear c6_2
  have c7_3 := below_keep hb _ _ c6_3
  clear c6_3
  have c7_4 := below_keep hb _ _ c6_4
  clear c6_4
  have c7_5 := below_keep hb _ _ c6_5
  clear c6_5
  have c7_6 := below_keep hb _ _ c6_6
  clear c6_6
  have c7_7 := below_keep hb _ _ c6_7
  clear c6_7
  have c7_8 := below_keep hb _ _ c6_8
  clear c6_8
  have c7_9 := below_keep hb _ _ c6_9
  clear c6_9
  have r7_0 := Lib.hid (r6_0.out.below hb)
  clear r6_0
  have r7_1 := Lib.hid (R_X.out.below hb)
  clear R_X
  clear hb
  have R_Y := Q
  clear Q
  by_cases hik : i = k
  · skip
    have hq : ((i : Int) == (k : Int)) = true := by simp [hik]
    have F2' : Hid (mapped (withSlot (withSlot (List.replicate 4 noSlot) i (p_a, r_a)) k (p_b, r_b)) = 1) := Lib.hid (by rw [F2.out]; simp [hik])
    clear F1 F2
    go_wp2_with fail
    refine (iMapped_c A_X 4 c_X (withSlot (withSlot (List.replicate 4 noSlot) i (p_a, r_a)) k (p_b, r_b)) _ r7_1.out (by omega)).mono ?_
    rintro e w8 ⟨rfl, hb⟩
    have B8 := B7.trans (hb.mono B7.size)
    clear B7
    have c8_0 := below_keep hb _ _ c7_0
    clear c7_0
    have c8_1 := below_keep hb _ _ c7_1
    clear c7_1
    have c8_2 := below_keep hb _ _ c7_2
    clear c7_2
    have c8_3 := below_keep hb _ _ c7_3
    clear c7_3
    have c8_4 := below_keep hb _ _ c7_4
    clear c7_4
    have c8_5 := below_keep hb _ _ c7_5
    clear c7_5
    have c8_6 := below_keep hb _ _ c7_6
    clear c7_6
    have c8_7 := below_keep hb _ _ c7_7
    clear c7_7
    have c8_8 := below_keep hb _ _ c7_8
    clear c7_8
    have c8_9 := below_keep hb _ _ c7_9
    clear c7_9
    have r8_0 := Lib.hid (r7_0.out.below hb)
    clear r7_0
    have r8_1 := Lib.hid (r7_1.out.below hb)
    clear r7_1
    have r8_2 := Lib.hid (R_Y.out.below hb)
    clear R_Y
    clear hb
    rw [F2'.out]
    go_wp2_with fail
    refine (iWithSlot_c k A_X 4 c_X (withSlot (withSlot (List.replicate 4 noSlot) i (p_a, r_a)) k (p_b, r_b)) p_b r_b _ r8_1.out (by omega)).mono ?_
    rintro e w9 ⟨A_Z, c_Z, rfl, own, hb⟩
    have Q := Lib.hid (Rd.of_own own)
    clear own
    have B9 := B8.trans (hb.mono B8.size)
    clear B8
    have c9_0 := below_keep hb _ _ c8_0
    clear c8_0
    have c9_1 := below_keep hb _ _ c8_1
    clear c8_1
    have c9_2 := below_keep hb _ _ c8_2
    clear c8_2
    have c9_3 := below_keep hb _ _ c8_3
    clear c8_3
    have c9_4 := below_keep hb _ _ c8_4
    clear c8_4
    have c9_5 := below_keep hb _ _ c8_5
    clear c8_5
    have c9_6 := below_keep hb _ _ c8_6
    clear c8_6
    have c9_7 := below_keep hb _ _ c8_7
    clear c8_7
    have c9_8 := below_keep hb _ _ c8_8
    clear c8_8
    have c9_9 := below_keep hb _ _ c8_9
    clear c8_9
    have r9_0 := Lib.hid (r8_0.out.below hb)
    clear r8_0
    have r9_1 := Lib.hid (r8_1.out.below hb)
    clear r8_1
    have r9_2 := Lib.hid (r8_2.out.below hb)
    clear r8_2
    clear hb
    have R_Z := Q
    clear Q
    go_wp2_with fail
    refine (sameSlots_t A_Z A_X 4 c_Z c_X (withSlot (withSlot (List.replicate 4 noSlot) i (p_a, r_a)) k (p_b, r_b)) _ (F3.out ▸ R_Z.out) r9_1.out (by omega)).mono ?_
    rintro e w10 ⟨rfl, hb⟩
    have B10 := B9.trans (hb.mono B9.size)
    clear B9
    have c10_0 := below_keep hb _ _ c9_0
    clear c9_0
    have c10_1 := below_keep hb _ _ c9_1
    clear c9_1
    have c10_2 := below_keep hb _ _ c9_2
    clear c9_2
    have c10_3 := below_keep hb _ _ c9_3
    clear c9_3
    have c10_4 := below_keep hb _ _ c9_4
    clear c9_4
    have c10_5 := below_keep hb _ _ c9_5
    clear c9_5
    have c10_6 := below_keep hb _ _ c9_6
    clear c9_6
    have c10_7 := below_keep hb _ _ c9_7
    clear c9_7
    have c10_8 := below_keep hb _ _ c9_8
    clear c9_8
    have c10_9 := below_keep hb _ _ c9_9
    clear c9_9
    have r10_0 := Lib.hid (r9_0.out.below hb)
    clear r9_0
    have r10_1 := Lib.hid (r9_1.out.below hb)
    clear r9_1
    have r10_2 := Lib.hid (r9_2.out.below hb)
    clear r9_2
    have r10_3 := Lib.hid (R_Z.out.below hb)
    clear R_Z
    clear hb
    go_wp2_with fail
    refine (iTableOk_c A_X 4 c_X (withSlot (withSlot (List.replicate 4 noSlot) i (p_a, r_a)) k (p_b, r_b)) 4 8 _ r10_1.out (by omega) (by omega)).mono ?_
    rintro e w11 ⟨rfl, hb⟩
    have B11 := B10.trans (hb.mono B10.size)
    clear B10
    have c11_0 := below_keep hb _ _ c10_0
    clear c10_0
    have c11_1 := below_keep hb _ _ c10_1
    clear c10_1
    have c11_2 := below_keep hb _ _ c10_2
    clear c10_2
    have c11_3 := below_keep hb _ _ c10_3
    clear c10_3
    have c11_4 := below_keep hb _ _ c10_4
    clear c10_4
    have c11_5 := below_keep hb _ _ c10_5
    clear c10_5
    have c11_6 := below_keep hb _ _ c10_6
    clear c10_6
    have c11_7 := below_keep hb _ _ c10_7
    clear c10_7
    have c11_8 := below_keep hb _ _ c10_8
    clear c10_8
    have c11_9 := below_keep hb _ _ c10_9
    clear c10_9
    have r11_0 := Lib.hid (r10_0.out.below hb)
    clear r10_0
    have r11_1 := Lib.hid (r10_1.out.below hb)
    clear r10_1
    have r11_2 := Lib.hid (r10_2.out.below hb)
    clear r10_2
    have r11_3 := Lib.hid (r10_3.out.below hb)
    clear r10_3
    clear hb
    rw [F4.out]
    go_wp2
    go_ret
    exact ⟨rfl, B11⟩
  · skip
    have hq : ((i : Int) == (k : Int)) = false := by simp; omega
    have F2' : Hid (mapped (withSlot (withSlot (List.replicate 4 noSlot) i (p_a, r_a)) k (p_b, r_b)) = 2) := Lib.hid (by rw [F2.out]; simp [hik])
    have FX := Lib.hid (F1.out hik)
    clear F1 F2
    go_wp2_with fail
    refine (sameSlots_t A_X A_Y 4 c_X c_Y (withSlot (withSlot (List.replicate 4 noSlot) k (p_b, r_b)) i (p_a, r_a)) _ (FX.out ▸ r7_1.out) R_Y.out (by omega)).mono ?_
    rintro e w8 ⟨rfl, hb⟩
    have B8 := B7.trans (hb.mono B7.size)
    clear B7
    have c8_0 := below_keep hb _ _ c7_0
    clear c7_0
    have c8_1 := below_keep hb _ _ c7_1
    clear c7_1
    have c8_2 := below_keep hb _ _ c7_2
    clear c7_2
    have c8_3 := below_keep hb _ _ c7_3
    clear c7_3
    have c8_4 := below_keep hb _ _ c7_4
    clear c7_4
    have c8_5 := below_keep hb _ _ c7_5
    clear c7_5
    have c8_6 := below_keep hb _ _ c7_6
    clear c7_6
    have c8_7 := below_keep hb _ _ c7_7
    clear c7_7
    have c8_8 := below_keep hb _ _ c7_8
    clear c7_8
    have c8_9 := below_keep hb _ _ c7_9
    clear c7_9
    have r8_0 := Lib.hid (r7_0.out.below hb)
    clear r7_0
    have r8_1 := Lib.hid (r7_1.out.below hb)
    clear r7_1
    have r8_2 := Lib.hid (R_Y.out.below hb)
    clear R_Y
    clear hb
    go_wp2_with fail
    refine (iMapped_c A_X 4 c_X (withSlot (withSlot (List.replicate 4 noSlot) i (p_a, r_a)) k (p_b, r_b)) _ r8_1.out (by omega)).mono ?_
    rintro e w9 ⟨rfl, hb⟩
    have B9 := B8.trans (hb.mono B8.size)
    clear B8
    have c9_0 := below_keep hb _ _ c8_0
    clear c8_0
    have c9_1 := below_keep hb _ _ c8_1
    clear c8_1
    have c9_2 := below_keep hb _ _ c8_2
    clear c8_2
    have c9_3 := below_keep hb _ _ c8_3
    clear c8_3
    have c9_4 := below_keep hb _ _ c8_4
    clear c8_4
    have c9_5 := below_keep hb _ _ c8_5
    clear c8_5
    have c9_6 := below_keep hb _ _ c8_6
    clear c8_6
    have c9_7 := below_keep hb _ _ c8_7
    clear c8_7
    have c9_8 := below_keep hb _ _ c8_8
    clear c8_8
    have c9_9 := below_keep hb _ _ c8_9
    clear c8_9
    have r9_0 := Lib.hid (r8_0.out.below hb)
    clear r8_0
    have r9_1 := Lib.hid (r8_1.out.below hb)
    clear r8_1
    have r9_2 := Lib.hid (r8_2.out.below hb)
    clear r8_2
    clear hb
    rw [F2'.out]
    go_wp2_with fail
    refine (iWithSlot_c k A_X 4 c_X (withSlot (withSlot (List.replicate 4 noSlot) i (p_a, r_a)) k (p_b, r_b)) p_b r_b _ r9_1.out (by omega)).mono ?_
    rintro e w10 ⟨A_Z, c_Z, rfl, own, hb⟩
    have Q := Lib.hid (Rd.of_own own)
    clear own
    have B10 := B9.trans (hb.mono B9.size)
    clear B9
    have c10_0 := below_keep hb _ _ c9_0
    clear c9_0
    have c10_1 := below_keep hb _ _ c9_1
    clear c9_1
    have c10_2 := below_keep hb _ _ c9_2
    clear c9_2
    have c10_3 := below_keep hb _ _ c9_3
    clear c9_3
    have c10_4 := below_keep hb _ _ c9_4
    clear c9_4
    have c10_5 := below_keep hb _ _ c9_5
    clear c9_5
    have c10_6 := below_keep hb _ _ c9_6
    clear c9_6
    have c10_7 := below_keep hb _ _ c9_7
    clear c9_7
    have c10_8 := below_keep hb _ _ c9_8
    clear c9_8
    have c10_9 := below_keep hb _ _ c9_9
    clear c9_9
    have r10_0 := Lib.hid (r9_0.out.below hb)
    clear r9_0
    have r10_1 := Lib.hid (r9_1.out.below hb)
    clear r9_1
    have r10_2 := Lib.hid (r9_2.out.below hb)
    clear r9_2
    clear hb
    have R_Z := Q
    clear Q
    go_wp2_with fail
    refine (sameSlots_t A_Z A_X 4 c_Z c_X (withSlot (withSlot (List.replicate 4 noSlot) i (p_a, r_a)) k (p_b, r_b)) _ (F3.out ▸ R_Z.out) r10_1.out (by omega)).mono ?_
    rintro e w11 ⟨rfl, hb⟩
    have B11 := B10.trans (hb.mono B10.size)
    clear B10
    have c11_0 := below_keep hb _ _ c10_0
    clear c10_0
    have c11_1 := below_keep hb _ _ c10_1
    clear c10_1
    have c11_2 := below_keep hb _ _ c10_2
    clear c10_2
    have c11_3 := below_keep hb _ _ c10_3
    clear c10_3
    have c11_4 := below_keep hb _ _ c10_4
    clear c10_4
    have c11_5 := below_keep hb _ _ c10_5
    clear c10_5
    have c11_6 := below_keep hb _ _ c10_6
    clear c10_6
    have c11_7 := below_keep hb _ _ c10_7
    clear c10_7
    have c11_8 := below_keep hb _ _ c10_8
    clear c10_8
    have c11_9 := below_keep hb _ _ c10_9
    clear c10_9
    have r11_0 := Lib.hid (r10_0.out.below hb)
    clear r10_0
    have r11_1 := Lib.hid (r10_1.out.below hb)
    clear r10_1
    have r11_2 := Lib.hid (r10_2.out.below hb)
    clear r10_2
    have r11_3 := Lib.hid (R_Z.out.below hb)
    clear R_Z
    clear hb
    go_wp2_with fail
    refine (iTableOk_c A_X 4 c_X (withSlot (withSlot (List.replicate 4 noSlot) i (p_a, r_a)) k (p_b, r_b)) 4 8 _ r11_1.out (by omega) (by omega)).mono ?_
    rintro e w12 ⟨rfl, hb⟩
    have B12 := B11.trans (hb.mono B11.size)
    clear B11
    have c12_0 := below_keep hb _ _ c11_0
    clear c11_0
    have c12_1 := below_keep hb _ _ c11_1
    clear c11_1
    have c12_2 := below_keep hb _ _ c11_2
    clear c11_2
    have c12_3 := below_keep hb _ _ c11_3
    clear c11_3
    have c12_4 := below_keep hb _ _ c11_4
    clear c11_4
    have c12_5 := below_keep hb _ _ c11_5
    clear c11_5
    have c12_6 := below_keep hb _ _ c11_6
    clear c11_6
    have c12_7 := below_keep hb _ _ c11_7
    clear c11_7
    have c12_8 := below_keep hb _ _ c11_8
    clear c11_8
    have c12_9 := below_keep hb _ _ c11_9
    clear c11_9
    have r12_0 := Lib.hid (r11_0.out.below hb)
    clear r11_0
    have r12_1 := Lib.hid (r11_1.out.below hb)
    clear r11_1
    have r12_2 := Lib.hid (r11_2.out.below hb)
    clear r11_2
    have r12_3 := Lib.hid (r11_3.out.below hb)
    clear r11_3
    clear hb
    rw [F4.out]
    go_wp2
    go_ret
    exact ⟨rfl, B12⟩

/-! ### The row's step -/
theorem own : ownKnob Try.prog.godebug = none := by kernel_rfl
theorem laidOut : laidOutB Try.prog = true := by kernel_rfl
set_option maxRecDepth 100000 in
theorem lifted (os : Os) (started : os.Started) (H : Type) (enc : TypeId × Value → H) :
    ReturnsInHanded {} Try.checked os 8 .any (Rows.fnPutTwiceSpec.pre6 enc Try.prog Try.f8 Rows.fnPutTwiceRow.domain false) (Rows.fnPutTwiceSpec.post enc Try.prog Try.f8 false true false false) := by
  refine returnsInHanded_of_change (C := Try.checked) own started (by kernel_rfl) Try.func8
    (ChangeSpec.witness6 (enc := enc) (C := Try.checked) false ⟨#[], #[.slice none 0 0], []⟩ 8 (by kernel_rfl) (by kernel_rfl) (by kernel_rfl) (by kernel_rfl)) ?_
  intro W base args ds gs before hval0 hW hcnd _
  have hval : ∀ (j : Nat) t v, Try.f8.params[j]? = some t → args[j]? = some v → Value.okWide Try.prog W .any base t v := hval0
  have hW' := hW
  obtain ⟨p, q, hA0, hV, rfl, hfz, hnd⟩ := hW
  have hA : DataW.TrodAll enc Try.prog W 0 (fun _ => true) true Try.f8.params.toList args.toList ds p := hA0
  rw [Try.params8] at hA hval
  obtain ⟨v0, vs0, d0, ds0, p0, q0, hargs, rfl, rfl, h0, r0⟩ := trodAll_cons hA
  obtain ⟨rfl, rfl, rfl⟩ := trodAll_nil r0
  obtain rfl : args = #[v0] := by cases args; simp_all
  obtain ⟨rfl, rfl⟩ := trodVars_none hV
  have k0 := h0
  have lt0 : ∀ x ∈ p0, x.block < W.heap.size := by obtain ⟨m, hm⟩ := k0; exact DataW.trod_lt m _ _ _ hm
  obtain ⟨a0, len0, cap0, rfl⟩ := okWide_slice Try.underlying53 (hval 0 53 v0 rfl rfl)
  obtain ⟨l0, w0⟩ := opn_bytes k0
  clear hA0 hval0
  refine (walk a0 len0 cap0 l0 W w0).mono fun e W' ⟨he, bel⟩ => ?_
  subst he
  exact ⟨_, rfl, _, _, _, [], _, [], hW', trodAll_mk1 (shut_bool Try.underlying4 _), (trodAll_cons_mk (Below.trod laidOut (by kernel_rfl) (of_decide_eq_true (by kernel_rfl)) k0 bel lt0) trodAll_mk0), rfl, bel.frame _, fun h => by cases h⟩

theorem over : Rows.fnPutTwiceRow.holds Try.pinned (OpenSpec.ofChange Rows.fnPutTwiceSpec) :=
  OpenClaim.holds_of_wide 8 Try.f8 rfl rfl rfl rfl rfl rfl rfl ⟨rfl, rfl, rfl, rfl, rfl⟩ rfl rfl rfl rfl rfl (by kernel_rfl) Try.func8 (by kernel_rfl)
    (of_decide_eq_true (by kernel_rfl)) (by unfold Func.isWrapper; first | (rw [if_pos (by decide +kernel)]; kernel_rfl) | (rw [if_neg (by decide +kernel)]; exact ⟨rfl, rfl⟩))
    (fun os started H enc _ => lifted os started H enc)

/-- The statement. -/
theorem proved : Rows.FnPutTwiceSaid := over
#print axioms proved
end Go.Proofs.Ytlfnhfipnjgifaa.fnPutTwice
