/- The law FnWalks returns true for every input: a walk leads exactly where the composed table leads. No condition. -/
import Derived.Test.YtlfnhfipnjgifaaRows
import Derived.Test.YtlfnhfipnjgifaaOpenB
import Derived.Test.YtlfnhfipnjgifaaDrawT
import Derived.Test.YtlfnhfipnjgifaaCompose
import Derived.Test.YtlfnhfipnjgifaaWalk
import Derived.Test.YtlfnhfipnjgifaaFaults
import Derived.Test.YtlfnhfipnjgifaaSameS
import Derived.Test.YtlfnhfipnjgifaaLawT
import Derived.Test.YtlfnhfipnjgifaaAddr
import Derived.WalkKit
import Derived.ProofKit
import Derived.OpenShut
import Derived.ShutString
import Derived.ChangeOld
import Derived.Below
import Derived.Handy
import Derived.Carry
import Derived.Lib.SmallJoins
import Derived.WalkLawsBesides
import Derived.WalkSpells
import Derived.BigQuiet
import Derived.Deep.QuietTactic
import Derived.Outline
namespace Go.Proofs.Ytlfnhfipnjgifaa.fnWalks
open Go.ChangeShapes Go.WideShapes Go.ChangeAt Go.RowKit
open Go.ChangeMaps (open_string shut_string)
set_option linter.unusedVariables false
set_option linter.unusedSimpArgs false

set_option maxHeartbeats 4000000 in
set_option maxRecDepth 20000 in
theorem walk (a0 : Option Addr) (len0 cap0 : Nat) (l0 : Nat) (w : World) (h0 : Bytes w w.heap.size a0 len0 ∧ len0 ≤ maxLen) :
    Calls Try.prog 12 #[.slice a0 len0 cap0] w fun e w' => e = .returned (.bool true) ∧ Below w.heap.size w w' := by
  obtain ⟨hb, hm⟩ := h0
  by_cases hbig : 1048576 < len0
  · go_enter Try.func12, Try.ntmps12
    go_wp2_with fail
    refine (big_c _ _ _ _ hm).mono ?_
    rintro e w' ⟨rfl, rfl⟩
    rw [decide_eq_true hbig]
    go_wp2
    go_ret
    exact ⟨rfl, Below.refl _ _⟩
  have hle : len0 ≤ 1048576 := by omega
  have HB := Lib.hid hb
  clear hb
  go_enter Try.func12, Try.ntmps12
  go_wp2_with fail
  refine (big_c _ _ _ _ hm).mono ?_
  rintro e w' ⟨rfl, rfl⟩
  rw [decide_eq_false hbig]
  clear hbig hm
  have B0 := Below.refl w.heap.size w
  go_wp2_with fail
  refine (DrawWalk_c a0 len0 cap0 _ HB.out hle).mono ?_
  rintro e w1 ⟨A_in, n_in, c_in, l_in, A_ou, n_ou, c_ou, l_ou, x_page, x_need, rfl, D_in, D_ou, m_page, m_need, hb⟩
  have B1 := B0.trans (hb.mono B0.size)
  clear B0
  have HB1 := Lib.hid (HB.out.grow hb)
  clear HB
  clear hb
  have hn_in := D_in.1
  have R_in := Lib.hid D_in.2
  clear D_in
  have hn_ou := D_ou.1
  have R_ou := Lib.hid D_ou.2
  clear D_ou
  have M_page := Lib.hid m_page
  clear m_page
  have M_need := Lib.hid m_need
  clear m_need
  obtain ⟨⟨pp, kk⟩, hw⟩ : ∃ y, walkS l_in l_ou x_page x_need = y := ⟨_, rfl⟩
  have W1 := Lib.hid hw
  have W3 := Lib.hid (walks_law l_in l_ou x_page x_need pp kk hw)
  clear hw
  go_wp2_with fail
  refine (iWalk_c A_in A_ou n_in n_ou c_in c_ou l_in l_ou x_page x_need _ R_in.out R_ou.out (by omega) (by omega) W1.out).mono ?_
  rintro e w2 ⟨rfl, hb⟩
  have B2 := B1.trans (hb.mono B1.size)
  clear B1
  have r2_0 := Lib.hid (R_in.out.below hb)
  clear R_in
  have r2_1 := Lib.hid (R_ou.out.below hb)
  clear R_ou
  have HB2 := Lib.hid (HB1.out.grow hb)
  clear HB1
  clear hb
  go_wp2_with fail
  refine (sWalk_c A_in A_ou n_in n_ou c_in c_ou l_in l_ou x_page x_need _ r2_0.out r2_1.out (by omega) (by omega) W1.out).mono ?_
  rintro e w3 ⟨rfl, hb⟩
  have B3 := B2.trans (hb.mono B2.size)
  clear B2
  have r3_0 := Lib.hid (r2_0.out.below hb)
  clear r2_0
  have r3_1 := Lib.hid (r2_1.out.below hb)
  clear r2_1
  have HB3 := Lib.hid (HB2.out.grow hb)
  clear HB2
  clear hb
  go_wp2_with fail
  refine (DrawWalkInner_c a0 len0 cap0 _ HB3.out hle).mono ?_
  rintro e w4 ⟨A_a, n_a, c_a, l_a, x_b, x_c, rfl, D_a, m_b, m_c, hb⟩
  have B4 := B3.trans (hb.mono B3.size)
  clear B3
  have r4_0 := Lib.hid (r3_0.out.below hb)
  clear r3_0
  have r4_1 := Lib.hid (r3_1.out.below hb)
  clear r3_1
  have HB4 := Lib.hid (HB3.out.grow hb)
  clear HB3
  clear hb
  have hn_a := D_a.1
  have R_a := Lib.hid D_a.2
  clear D_a
  have M_b := Lib.hid m_b
  clear m_b
  have M_c := Lib.hid m_c
  clear m_c
  obtain ⟨⟨mm, vv⟩, hw⟩ : ∃ y, walkInner l_a x_b x_c = y := ⟨_, rfl⟩
  have W2 := Lib.hid hw
  clear hw
  go_wp2_with fail
  refine (iWalkInner_c A_a n_a c_a l_a x_b x_c _ R_a.out (by omega) W2.out).mono ?_
  rintro e w5 ⟨rfl, hb⟩
  have B5 := B4.trans (hb.mono B4.size)
  clear B4
  have r5_0 := Lib.hid (r4_0.out.below hb)
  clear r4_0
  have r5_1 := Lib.hid (r4_1.out.below hb)
  clear r4_1
  have r5_2 := Lib.hid (R_a.out.below hb)
  clear R_a
  have HB5 := Lib.hid (HB4.out.grow hb)
  clear HB4
  clear hb
  go_wp2_with fail
  refine (sWalkInner_c A_a n_a c_a l_a x_b x_c _ r5_2.out (by omega) W2.out).mono ?_
  rintro e w6 ⟨rfl, hb⟩
  have B6 := B5.trans (hb.mono B5.size)
  clear B5
  have r6_0 := Lib.hid (r5_0.out.below hb)
  clear r5_0
  have r6_1 := Lib.hid (r5_1.out.below hb)
  clear r5_1
  have r6_2 := Lib.hid (r5_2.out.below hb)
  clear r5_2
  have HB6 := Lib.hid (HB5.out.grow hb)
  clear HB5
  clear hb
  go_wp2_with fail
  refine (DrawFaults_c a0 len0 cap0 _ HB6.out hle).mono ?_
  rintro e w7 ⟨A_d, n_d, c_d, l_d, A_e, n_e, c_e, l_e, x_f, rfl, D_d, D_e, m_f, hb⟩
  have B7 := B6.trans (hb.mono B6.size)
  clear B6
  have r7_0 := Lib.hid (r6_0.out.below hb)
  clear r6_0
  have r7_1 := Lib.hid (r6_1.out.below hb)
  clear r6_1
  have r7_2 := Lib.hid (r6_2.out.below hb)
  clear r6_2
  have HB7 := Lib.hid (HB6.out.grow hb)
  clear HB6
  clear hb
  have hn_d := D_d.1
  have R_d := Lib.hid D_d.2
  clear D_d
  have hn_e := D_e.1
  have R_e := Lib.hid D_e.2
  clear D_e
  have M_f := Lib.hid m_f
  clear m_f
  have q1 : (pp == pp) = true := by simp
  have q2 : (kk == kk) = true := by simp
  have q3 : (mm == mm) = true := by simp
  have q4 : (vv == vv) = true := by simp
  go_wp2_with fail
  refine (iFaults_c A_d A_e n_d n_e c_d c_e l_d l_e x_f _ R_d.out R_e.out (by omega) (by omega)).mono ?_
  rintro e w8 ⟨A_F, c_F, rfl, own, hb⟩
  have Q := Lib.hid (Rd.of_own own)
  clear own
  have B8 := B7.trans (hb.mono B7.size)
  clear B7
  have r8_0 := Lib.hid (r7_0.out.below hb)
  clear r7_0
  have r8_1 := Lib.hid (r7_1.out.below hb)
  clear r7_1
  have r8_2 := Lib.hid (r7_2.out.below hb)
  clear r7_2
  have r8_3 := Lib.hid (R_d.out.below hb)
  clear R_d
  have r8_4 := Lib.hid (R_e.out.below hb)
  clear R_e
  have HB8 := Lib.hid (HB7.out.grow hb)
  clear HB7
  clear hb
  have R_F := Q
  clear Q
  go_wp2_with fail
  refine (sFaults_c A_d A_e n_d n_e c_d c_e l_d l_e x_f _ r8_3.out r8_4.out (by omega) (by omega)).mono ?_
  rintro e w9 ⟨A_G, c_G, rfl, own, hb⟩
  have Q := Lib.hid (Rd.of_own own)
  clear own
  have B9 := B8.trans (hb.mono B8.size)
  clear B8
  have r9_0 := Lib.hid (r8_0.out.below hb)
  clear r8_0
  have r9_1 := Lib.hid (r8_1.out.below hb)
  clear r8_1
  have r9_2 := Lib.hid (r8_2.out.below hb)
  clear r8_2
  have r9_3 := Lib.hid (r8_3.out.below hb)
  clear r8_3
  have r9_4 := Lib.hid (r8_4.out.below hb)
  clear r8_4
  have r9_5 := Lib.hid (R_F.out.below hb)
  clear R_F
  have HB9 := Lib.hid (HB8.out.grow hb)
  clear HB8
  clear hb
  have R_G := Q
  clear Q
  go_wp2_with fail
  refine (sameInts_t A_F A_G n_d c_F c_G (faultsTo l_d l_e x_f n_d) _ r9_5.out R_G.out (by omega)).mono ?_
  rintro e w10 ⟨rfl, hb⟩
  have B10 := B9.trans (hb.mono B9.size)
  clear B9
  have r10_0 := Lib.hid (r9_0.out.below hb)
  clear r9_0
  have r10_1 := Lib.hid (r9_1.out.below hb)
  clear r9_1
  have r10_2 := Lib.hid (r9_2.out.below hb)
  clear r9_2
  have r10_3 := Lib.hid (r9_3.out.below hb)
  clear r9_3
  have r10_4 := Lib.hid (r9_4.out.below hb)
  clear r9_4
  have r10_5 := Lib.hid (r9_5.out.below hb)
  clear r9_5
  have r10_6 := Lib.hid (R_G.out.below hb)
  clear R_G
  have HB10 := Lib.hid (HB9.out.grow hb)
  clear HB9
  clear hb
  go_wp2_with fail
  refine (sCompose_c A_in A_ou n_in n_ou c_in c_ou l_in l_ou _ r10_0.out r10_1.out (by omega) (by omega)).mono ?_
  rintro e w11 ⟨A_C, c_C, rfl, own, hb⟩
  have Q := Lib.hid (Rd.of_own own)
  clear own
  have B11 := B10.trans (hb.mono B10.size)
  clear B10
  have r11_0 := Lib.hid (r10_0.out.below hb)
  clear r10_0
  have r11_1 := Lib.hid (r10_1.out.below hb)
  clear r10_1
  have r11_2 := Lib.hid (r10_2.out.below hb)
  clear r10_2
  have r11_3 := Lib.hid (r10_3.out.below hb)
  clear r10_3
  have r11_4 := Lib.hid (r10_4.out.below hb)
  clear r10_4
  have r11_5 := Lib.hid (r10_5.out.below hb)
  clear r10_5
  have r11_6 := Lib.hid (r10_6.out.below hb)
  clear r10_6
  have HB11 := Lib.hid (HB10.out.grow hb)
  clear HB10
  clear hb
  have R_C := Q
  clear Q
  obtain ⟨⟨sp, sr⟩, hs⟩ : ∃ y, slotAt (l_in.map fun s => composeSlot s l_ou) x_page = y := ⟨_, rfl⟩
  have S1 := Lib.hid hs
  have S2 := Lib.hid (hs ▸ W3.out)
  clear hs
  go_wp2_with fail
  refine (sSlotAt_c A_C n_in c_C (l_in.map fun s => composeSlot s l_ou) x_page _ R_C.out (by omega) S1.out).mono ?_
  rintro e w12 ⟨rfl, hb⟩
  have B12 := B11.trans (hb.mono B11.size)
  clear B11
  have r12_0 := Lib.hid (r11_0.out.below hb)
  clear r11_0
  have r12_1 := Lib.hid (r11_1.out.below hb)
  clear r11_1
  have r12_2 := Lib.hid (r11_2.out.below hb)
  clear r11_2
  have r12_3 := Lib.hid (r11_3.out.below hb)
  clear r11_3
  have r12_4 := Lib.hid (r11_4.out.below hb)
  clear r11_4
  have r12_5 := Lib.hid (r11_5.out.below hb)
  clear r11_5
  have r12_6 := Lib.hid (r11_6.out.below hb)
  clear r11_6
  have r12_7 := Lib.hid (R_C.out.below hb)
  clear R_C
  have HB12 := Lib.hid (HB11.out.grow hb)
  clear HB11
  clear hb
  have e0 : (w12.alloc (.cells #[.int .i64 sp, .int .i64 sr] 41)).cell? ⟨w12.heap.size, 0, none⟩ = some (.int .i64 sp) := by simp [go_sem]
  have e1 : (w12.alloc (.cells #[.int .i64 sp, .int .i64 sr] 41)).cell? ⟨w12.heap.size, 1, none⟩ = some (.int .i64 sr) := by simp [go_sem]
  have hA := (Below.refl (w12).heap.size (w12)).alloc (Nat.le_refl _) (.cells #[.int .i64 sp, .int .i64 sr] 41)
  have B13 := B12.trans (hA.mono B12.size)
  clear B12
  have HB13 := Lib.hid (HB12.out.grow hA)
  clear HB12
  clear hA
  obtain ⟨b1, E1⟩ : ∃ v, Hid (enough sr x_need = v) := ⟨_, Lib.hid rfl⟩
  have hcases : ((x_need == 1) = false ∧ (x_need == 2) = false ∧ (kk == 0) = true ∧ pp = pp ∧ b1 = b1) ∨ ((x_need == 1) = false ∧ (x_need == 2) = false ∧ (kk == 0) = false ∧ pp = -1 ∧ b1 = b1) ∨ (((x_need == 1) = true ∨ (x_need == 1) = false ∧ (x_need == 2) = true) ∧ (kk == 0) = true ∧ (sp == -1) = false ∧ pp = sp ∧ b1 = true) ∨ (((x_need == 1) = true ∨ (x_need == 1) = false ∧ (x_need == 2) = true) ∧ (kk == 0) = false ∧ pp = -1 ∧ ((sp == -1) = true ∨ (sp == -1) = false ∧ b1 = false)) := by
    obtain ⟨T1, T2⟩ := S2.out
    have E := E1.out
    by_cases hk : kk = 0
    · by_cases hn : x_need = 1 ∨ x_need = 2
      · obtain ⟨U1, U2⟩ := T2 hn
        obtain ⟨V1, V2⟩ := U1.1 hk
        refine .inr (.inr (.inl ⟨?_, by simp [hk], by simp [V1], U2 hk, E ▸ V2⟩))
        rcases hn with h | h
        · left; simp [h]
        · right; simp [h]
      · simp only [not_or] at hn
        exact .inl ⟨by simp [hn.1], by simp [hn.2], by simp [hk], rfl, rfl⟩
    · have hp : pp = -1 := T1.resolve_left hk
      by_cases hn : x_need = 1 ∨ x_need = 2
      · obtain ⟨U1, U2⟩ := T2 hn
        refine .inr (.inr (.inr ⟨?_, by simp [hk], hp, ?_⟩))
        · rcases hn with h | h
          · left; simp [h]
          · right; simp [h]
        · by_cases hs : sp = -1
          · left; simp [hs]
          · refine .inr ⟨by simp [hs], ?_⟩
            cases b1
            · rfl
            · exact absurd (U1.2 ⟨hs, E⟩) hk
      · simp only [not_or] at hn
        exact .inr (.inl ⟨by simp [hn.1], by simp [hn.2], by simp [hk], hp, rfl⟩)
  clear S2 W3 W1 S1
  have hsp : (sp != -1) = !(sp == -1) := rfl
  have f11 : addrPage 11 = 2 := by decide
  have F1 := Lib.hid f11
  have f12 : addrCell 11 = 3 := by decide
  have F2 := Lib.hid f12
  clear f11 f12
  rcases hcases with ⟨n1, n2, n3, -, -⟩ | ⟨n1, n2, n3, rfl, -⟩ | ⟨n1 | ⟨n1, n2⟩, n3, n4, rfl, rfl⟩ | ⟨n1 | ⟨n1, n2⟩, n3, rfl, n4 | ⟨n4, rfl⟩⟩
  all_goals
    (try rw [n4] at hsp)
    go_wp2_with (go_at_call 67; refine (sEnough_v E1.out _).mono ?_; rintro e w' ⟨rfl, rfl⟩)
    refine (DrawAddrPage_c a0 len0 cap0 _ HB13.out hle).mono ?_
    rintro e w13 ⟨x_x, rfl, m_x, hb⟩
    have B14 := B13.trans (hb.mono B13.size)
    clear B13
    have HB14 := Lib.hid (HB13.out.grow hb)
    clear HB13
    clear hb
    have M_x := Lib.hid m_x.2
    clear m_x
    go_wp2_with fail
    refine (DrawAddrCell_c a0 len0 cap0 _ HB14.out hle).mono ?_
    rintro e w14 ⟨x_y, rfl, m_y, hb⟩
    have B15 := B14.trans (hb.mono B14.size)
    clear B14
    have HB15 := Lib.hid (HB14.out.grow hb)
    clear HB14
    clear hb
    have M_y := Lib.hid m_y
    clear m_y
    have M_y2 := Lib.hid M_y.out.2
    obtain ⟨u1, V1⟩ : ∃ v, Hid (addrPage x_x = v) := ⟨_, Lib.hid rfl⟩
    obtain ⟨u2, V2⟩ : ∃ v, Hid (addrCell x_y = v) := ⟨_, Lib.hid rfl⟩
    go_wp2_with (first | (go_at_call 71; first | ((with_reducible refine (sAddrPage_v V1.out M_x.out _).mono ?_); rintro e w' ⟨rfl, rfl⟩)) | (go_at_call 73; first | ((with_reducible refine (sAddrCell_v V2.out M_y2.out _).mono ?_); rintro e w' ⟨rfl, rfl⟩)) | (go_at_call 70; first | ((with_reducible refine (iAddrPage_v V1.out M_x.out _).mono ?_); rintro e w' ⟨rfl, rfl⟩) | ((with_reducible refine (iAddrPage_v F1.out (by omega) _).mono ?_); rintro e w' ⟨rfl, rfl⟩)) | (go_at_call 72; first | ((with_reducible refine (iAddrCell_v V2.out M_y2.out _).mono ?_); rintro e w' ⟨rfl, rfl⟩) | ((with_reducible refine (iAddrCell_v F2.out (by omega) _).mono ?_); rintro e w' ⟨rfl, rfl⟩)))
    go_ret
    exact ⟨rfl, B15⟩

/-! ### The row's step -/
theorem own : ownKnob Try.prog.godebug = none := by kernel_rfl
theorem laidOut : laidOutB Try.prog = true := by kernel_rfl
set_option maxRecDepth 100000 in
theorem lifted (os : Os) (started : os.Started) (H : Type) (enc : TypeId × Value → H) :
    ReturnsInHanded {} Try.checked os 12 .any (Rows.fnWalksSpec.pre6 enc Try.prog Try.f12 Rows.fnWalksRow.domain false) (Rows.fnWalksSpec.post enc Try.prog Try.f12 false true false false) := by
  refine returnsInHanded_of_change (C := Try.checked) own started (by kernel_rfl) Try.func12
    (ChangeSpec.witness6 (enc := enc) (C := Try.checked) false ⟨#[], #[.slice none 0 0], []⟩ 8 (by kernel_rfl) (by kernel_rfl) (by kernel_rfl) (by kernel_rfl)) ?_
  intro W base args ds gs before hval0 hW hcnd _
  have hval : ∀ (j : Nat) t v, Try.f12.params[j]? = some t → args[j]? = some v → Value.okWide Try.prog W .any base t v := hval0
  have hW' := hW
  obtain ⟨p, q, hA0, hV, rfl, hfz, hnd⟩ := hW
  have hA : DataW.TrodAll enc Try.prog W 0 (fun _ => true) true Try.f12.params.toList args.toList ds p := hA0
  rw [Try.params12] at hA hval
  obtain ⟨v0, vs0, d0, ds0, p0, q0, hargs, rfl, rfl, h0, r0⟩ := trodAll_cons hA
  obtain ⟨rfl, rfl, rfl⟩ := trodAll_nil r0
  obtain rfl : args = #[v0] := by cases args; simp_all
  obtain ⟨rfl, rfl⟩ := trodVars_none hV
  have k0 := h0
  have lt0 : ∀ x ∈ p0, x.block < W.heap.size := by obtain ⟨m, hm⟩ := k0; exact DataW.trod_lt m _ _ _ hm
  obtain ⟨a0, len0, cap0, rfl⟩ := okWide_slice Try.underlying53 (hval 0 53 v0 rfl rfl)
  obtain ⟨l0, w0⟩ := opn_bytes k0
  clear hA0 hval0
  refine (walk a0 len0 cap0 l0 W w0).mono fun e W' ⟨he, bel⟩ => ?_
  subst he
  exact ⟨_, rfl, _, _, _, [], _, [], hW', trodAll_mk1 (shut_bool Try.underlying4 _), (trodAll_cons_mk (Below.trod laidOut (by kernel_rfl) (of_decide_eq_true (by kernel_rfl)) k0 bel lt0) trodAll_mk0), rfl, bel.frame _, fun h => by cases h⟩

theorem over : Rows.fnWalksRow.holds Try.pinned (OpenSpec.ofChange Rows.fnWalksSpec) :=
  OpenClaim.holds_of_wide 12 Try.f12 rfl rfl rfl rfl rfl rfl rfl ⟨rfl, rfl, rfl, rfl, rfl⟩ rfl rfl rfl rfl rfl (by kernel_rfl) Try.func12 (by kernel_rfl)
    (of_decide_eq_true (by kernel_rfl)) (by unfold Func.isWrapper; first | (rw [if_pos (by decide +kernel)]; kernel_rfl) | (rw [if_neg (by decide +kernel)]; exact ⟨rfl, rfl⟩))
    (fun os started H enc _ => lifted os started H enc)

/-- The statement. -/
theorem proved : Rows.FnWalksSaid := over
#print axioms proved
end Go.Proofs.Ytlfnhfipnjgifaa.fnWalks
