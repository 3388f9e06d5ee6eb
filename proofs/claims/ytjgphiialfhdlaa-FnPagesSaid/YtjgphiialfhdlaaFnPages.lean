/- The law FnPages returns true for every input: a page that was put is there, all others are as they were. No condition. -/
import Derived.Test.YtjgphiialfhdlaaRows
import Derived.Test.YtjgphiialfhdlaaOpenB
import Derived.Test.YtjgphiialfhdlaaDrawO
import Derived.Test.YtjgphiialfhdlaaSameM
import Derived.Test.YtjgphiialfhdlaaLawM
import Derived.WalkKit
import Derived.ProofKit
import Derived.OpenShut
import Derived.ShutString
import Derived.ChangeOld
import Derived.Below
import Derived.Handy
import Derived.Carry
import Derived.Lib.SmallJoins
import Derived.WalkLawsBesides
import Derived.WalkSpells
import Derived.BigQuiet
import Derived.Deep.QuietTactic
import Derived.Outline
import Derived.Deep.RegionWith
import Derived.Deep.RegionHeld3
import Derived.Deep.DeepCutAuto
namespace Go.Proofs.Ytjgphiialfhdlaa.fnPages
open Go.ChangeShapes Go.WideShapes Go.ChangeAt Go.RowKit
open Go.ChangeMaps (open_string shut_string)
set_option linter.unusedVariables false
set_option linter.unusedSimpArgs false

theorem iMemOk_v {L : List (List Int)} {p : Int} {v : Bool} (h : memOk L p = v) (A : Option Addr) (n c : Nat) (w : World) (ha : Mx w A n L) (hn : n ≤ 1048576) (hr : Rows L) :
    Calls Try.prog 22 #[.slice A n c, .int .i64 p] w fun e w' => e = .returned (.bool v) ∧ w = w' := h ▸ iMemOk_c A n c L p w ha hn hr
theorem iPageAt_v {L : List (List Int)} {p : Int} {l : List Int} (h : pageAt L p = l) (A : Option Addr) (n c : Nat) (w : World) (ha : Mx w A n L) (hn : n ≤ 1048576) (hr : Rows L) :
    Calls Try.prog 33 #[.slice A n c, .int .i64 p] w (Made w 3 1 l.length (intCells l)) := h ▸ iPageAt_c p A n c L w ha hn hr
set_option maxHeartbeats 4000000 in
set_option maxRecDepth 20000 in
theorem walk (a0 : Option Addr) (len0 cap0 : Nat) (l0 : Nat) (w : World) (h0 : Bytes w w.heap.size a0 len0 ∧ len0 ≤ maxLen) :
    Calls Try.prog 13 #[.slice a0 len0 cap0] w fun e w' => e = .returned (.bool true) ∧ Below w.heap.size w w' := by
  obtain ⟨hb, hm⟩ := h0
  by_cases hbig : 1048576 < len0
  · go_enter Try.func13, Try.ntmps13
    go_wp2_with fail
    refine (big_c _ _ _ _ hm).mono ?_
    rintro e w' ⟨rfl, rfl⟩
    rw [decide_eq_true hbig]
    go_wp2
    go_ret
    exact ⟨rfl, Below.refl _ _⟩
  have hle : len0 ≤ 1048576 := by omega
  have HB := Lib.hid hb
  clear hb
  go_enter Try.func13, Try.ntmps13
  go_wp2_with fail
  refine (big_c _ _ _ _ hm).mono ?_
  rintro e w' ⟨rfl, rfl⟩
  rw [decide_eq_false hbig]
  clear hbig hm
  have B0 := Below.refl w.heap.size w
  go_wp2_with fail
  refine (DrawWithPage_c a0 len0 cap0 _ HB.out hle).mono ?_
  rintro e w1 ⟨A_m, n_m, c_m, l_m, x_page, A_cs, n_cs, c_cs, l_cs, rfl, D_m, m_page, D_cs, hb⟩
  have B1 := B0.trans (hb.mono B0.size)
  clear B0
  have HB1 := Lib.hid (HB.out.grow hb)
  clear HB
  clear hb
  have hn_m := D_m.1
  have S_m := Lib.hid D_m.2.1
  have R_m := Lib.hid D_m.2.2
  clear D_m
  have M_page := Lib.hid m_page
  clear m_page
  have hn_cs := D_cs.1
  have R_cs := Lib.hid D_cs.2
  clear D_cs
  have SR := Lib.hid S_m.out.rows
  have SX := Lib.hid (withPage_rows l_m x_page l_cs SR.out)
  go_wp2_with fail
  refine (iWithPage_c x_page A_m A_cs n_m n_cs c_m c_cs l_m l_cs _ R_m.out R_cs.out (by omega) (by omega) SR.out).mono ?_
  rintro e w2 ⟨A_X, c_X, vs_X, rfl, own, hb⟩
  have Q := Lib.hid own.mx
  clear own
  have B2 := B1.trans (hb.mono B1.size)
  clear B1
  have r2_0 := Lib.hid (R_m.out.below hb)
  clear R_m
  have r2_1 := Lib.hid (R_cs.out.below hb)
  clear R_cs
  have HB2 := Lib.hid (HB1.out.grow hb)
  clear HB1
  clear hb
  have R_X := Q
  clear Q
  go_wp2_with fail
  refine (DrawPageAt_c a0 len0 cap0 _ HB2.out hle).mono ?_
  rintro e w3 ⟨A_a, n_a, c_a, l_a, x_p, rfl, D_a, m_p, hb⟩
  have B3 := B2.trans (hb.mono B2.size)
  clear B2
  have r3_0 := Lib.hid (r2_0.out.below hb)
  clear r2_0
  have r3_1 := Lib.hid (r2_1.out.below hb)
  clear r2_1
  have r3_2 := Lib.hid (R_X.out.below hb)
  clear R_X
  have HB3 := Lib.hid (HB2.out.grow hb)
  clear HB2
  clear hb
  have hn_a := D_a.1
  have S_a := Lib.hid D_a.2.1
  have R_a := Lib.hid D_a.2.2
  clear D_a
  have M_p := Lib.hid m_p
  clear m_p
  go_wp2_with fail
  refine (DrawMemOk_c a0 len0 cap0 _ HB3.out hle).mono ?_
  rintro e w4 ⟨A_b, n_b, c_b, l_b, x_pages, rfl, D_b, m_pages, hb⟩
  have B4 := B3.trans (hb.mono B3.size)
  clear B3
  have r4_0 := Lib.hid (r3_0.out.below hb)
  clear r3_0
  have r4_1 := Lib.hid (r3_1.out.below hb)
  clear r3_1
  have r4_2 := Lib.hid (r3_2.out.below hb)
  clear r3_2
  have r4_3 := Lib.hid (R_a.out.below hb)
  clear R_a
  have HB4 := Lib.hid (HB3.out.grow hb)
  clear HB3
  clear hb
  have hn_b := D_b.1
  have S_b := Lib.hid D_b.2.1
  have R_b := Lib.hid D_b.2.2
  clear D_b
  have M_pages := Lib.hid m_pages
  clear m_pages
  go_wp2_with fail
  refine (DrawPageOk_c a0 len0 cap0 _ HB4.out hle).mono ?_
  rintro e w5 ⟨A_c, n_c, c_c, l_c, rfl, D_c, hb⟩
  have B5 := B4.trans (hb.mono B4.size)
  clear B4
  have r5_0 := Lib.hid (r4_0.out.below hb)
  clear r4_0
  have r5_1 := Lib.hid (r4_1.out.below hb)
  clear r4_1
  have r5_2 := Lib.hid (r4_2.out.below hb)
  clear r4_2
  have r5_3 := Lib.hid (r4_3.out.below hb)
  clear r4_3
  have r5_4 := Lib.hid (R_b.out.below hb)
  clear R_b
  have HB5 := Lib.hid (HB4.out.grow hb)
  clear HB4
  clear hb
  have hn_c := D_c.1
  have R_c := Lib.hid D_c.2
  clear D_c
  go_wp2_with fail
  refine (DrawSameMem_c a0 len0 cap0 _ HB5.out hle).mono ?_
  rintro e w6 ⟨A_d, n_d, c_d, l_d, A_e, n_e, c_e, l_e, rfl, D_d, D_e, hb⟩
  have B6 := B5.trans (hb.mono B5.size)
  clear B5
  have r6_0 := Lib.hid (r5_0.out.below hb)
  clear r5_0
  have r6_1 := Lib.hid (r5_1.out.below hb)
  clear r5_1
  have r6_2 := Lib.hid (r5_2.out.below hb)
  clear r5_2
  have r6_3 := Lib.hid (r5_3.out.below hb)
  clear r5_3
  have r6_4 := Lib.hid (r5_4.out.below hb)
  clear r5_4
  have r6_5 := Lib.hid (R_c.out.below hb)
  clear R_c
  have HB6 := Lib.hid (HB5.out.grow hb)
  clear HB5
  clear hb
  have hn_d := D_d.1
  have S_d := Lib.hid D_d.2.1
  have R_d := Lib.hid D_d.2.2
  clear D_d
  have hn_e := D_e.1
  have S_e := Lib.hid D_e.2.1
  have R_e := Lib.hid D_e.2.2
  clear D_e
  go_wp2_with fail
  refine (DrawMemNew_c a0 len0 cap0 _ HB6.out hle).mono ?_
  rintro e w7 ⟨x_n, rfl, m_n, hb⟩
  have B7 := B6.trans (hb.mono B6.size)
  clear B6
  have r7_0 := Lib.hid (r6_0.out.below hb)
  clear r6_0
  have r7_1 := Lib.hid (r6_1.out.below hb)
  clear r6_1
  have r7_2 := Lib.hid (r6_2.out.below hb)
  clear r6_2
  have r7_3 := Lib.hid (r6_3.out.below hb)
  clear r6_3
  have r7_4 := Lib.hid (r6_4.out.below hb)
  clear r6_4
  have r7_5 := Lib.hid (r6_5.out.below hb)
  clear r6_5
  have r7_6 := Lib.hid (R_d.out.below hb)
  clear R_d
  have r7_7 := Lib.hid (R_e.out.below hb)
  clear R_e
  have HB7 := Lib.hid (HB6.out.grow hb)
  clear HB6
  clear hb
  have M_n := Lib.hid m_n
  clear m_n
  clear HB7
  have Sa := Lib.hid S_a.out.rows
  have Sb := Lib.hid S_b.out.rows
  have Sd := Lib.hid S_d.out.rows
  have Se := Lib.hid S_e.out.rows
  go_wp2_with fail
  refine (sWithPage_c x_page A_m A_cs n_m n_cs c_m c_cs l_m l_cs _ r7_0.out r7_1.out (by omega) (by omega) SR.out).mono ?_
  rintro e w8 ⟨A_W, c_W, vs_W, rfl, own, hb⟩
  have Q := Lib.hid own.mx
  clear own
  have B8 := B7.trans (hb.mono B7.size)
  clear B7
  have r8_0 := Lib.hid (r7_0.out.below hb)
  clear r7_0
  have r8_1 := Lib.hid (r7_1.out.below hb)
  clear r7_1
  have r8_2 := Lib.hid (r7_2.out.below hb)
  clear r7_2
  have r8_3 := Lib.hid (r7_3.out.below hb)
  clear r7_3
  have r8_4 := Lib.hid (r7_4.out.below hb)
  clear r7_4
  have r8_5 := Lib.hid (r7_5.out.below hb)
  clear r7_5
  have r8_6 := Lib.hid (r7_6.out.below hb)
  clear r7_6
  have r8_7 := Lib.hid (r7_7.out.below hb)
  clear r7_7
  clear hb
  have R_W := Q
  clear Q
  go_wp2_with fail
  refine (sameMem_t A_X A_W n_m c_X c_W (withPage l_m x_page l_cs) _ r8_2.out R_W.out (by omega) SX.out).mono ?_
  rintro e w9 ⟨rfl, hb⟩
  have B9 := B8.trans (hb.mono B8.size)
  clear B8
  have r9_0 := Lib.hid (r8_0.out.below hb)
  clear r8_0
  have r9_1 := Lib.hid (r8_1.out.below hb)
  clear r8_1
  have r9_2 := Lib.hid (r8_2.out.below hb)
  clear r8_2
  have r9_3 := Lib.hid (r8_3.out.below hb)
  clear r8_3
  have r9_4 := Lib.hid (r8_4.out.below hb)
  clear r8_4
  have r9_5 := Lib.hid (r8_5.out.below hb)
  clear r8_5
  have r9_6 := Lib.hid (r8_6.out.below hb)
  clear r8_6
  have r9_7 := Lib.hid (r8_7.out.below hb)
  clear r8_7
  have r9_8 := Lib.hid (R_W.out.below hb)
  clear R_W
  clear hb
  have hpl := pageAt_len l_a x_p Sa.out
  go_wp2_with fail
  refine (iPageAt_c x_p A_a n_a c_a l_a _ r9_3.out (by omega) Sa.out).mono ?_
  rintro e w10 ⟨A_P, c_P, rfl, own, hb⟩
  have Q := Lib.hid (Rd.of_own own)
  clear own
  have B10 := B9.trans (hb.mono B9.size)
  clear B9
  have r10_0 := Lib.hid (r9_0.out.below hb)
  clear r9_0
  have r10_1 := Lib.hid (r9_1.out.below hb)
  clear r9_1
  have r10_2 := Lib.hid (r9_2.out.below hb)
  clear r9_2
  have r10_3 := Lib.hid (r9_3.out.below hb)
  clear r9_3
  have r10_4 := Lib.hid (r9_4.out.below hb)
  clear r9_4
  have r10_5 := Lib.hid (r9_5.out.below hb)
  clear r9_5
  have r10_6 := Lib.hid (r9_6.out.below hb)
  clear r9_6
  have r10_7 := Lib.hid (r9_7.out.below hb)
  clear r9_7
  clear hb
  have R_P := Q
  clear Q
  go_wp2_with fail
  refine (sPageAt_c x_p A_a n_a c_a l_a _ r10_3.out (by omega) Sa.out).mono ?_
  rintro e w11 ⟨A_Q, c_Q, rfl, own, hb⟩
  have Q := Lib.hid (Rd.of_own own)
  clear own
  have B11 := B10.trans (hb.mono B10.size)
  clear B10
  have r11_0 := Lib.hid (r10_0.out.below hb)
  clear r10_0
  have r11_1 := Lib.hid (r10_1.out.below hb)
  clear r10_1
  have r11_2 := Lib.hid (r10_2.out.below hb)
  clear r10_2
  have r11_3 := Lib.hid (r10_3.out.below hb)
  clear r10_3
  have r11_4 := Lib.hid (r10_4.out.below hb)
  clear r10_4
  have r11_5 := Lib.hid (r10_5.out.below hb)
  clear r10_5
  have r11_6 := Lib.hid (r10_6.out.below hb)
  clear r10_6
  have r11_7 := Lib.hid (r10_7.out.below hb)
  clear r10_7
  have r11_8 := Lib.hid (R_P.out.below hb)
  clear R_P
  clear hb
  have R_Q := Q
  clear Q
  go_wp2_with fail
  refine (sameInts_t A_P A_Q _ c_P c_Q (pageAt l_a x_p) _ r11_8.out R_Q.out hpl).mono ?_
  rintro e w12 ⟨rfl, hb⟩
  have B12 := B11.trans (hb.mono B11.size)
  clear B11
  have r12_0 := Lib.hid (r11_0.out.below hb)
  clear r11_0
  have r12_1 := Lib.hid (r11_1.out.below hb)
  clear r11_1
  have r12_2 := Lib.hid (r11_2.out.below hb)
  clear r11_2
  have r12_3 := Lib.hid (r11_3.out.below hb)
  clear r11_3
  have r12_4 := Lib.hid (r11_4.out.below hb)
  clear r11_4
  have r12_5 := Lib.hid (r11_5.out.below hb)
  clear r11_5
  have r12_6 := Lib.hid (r11_6.out.below hb)
  clear r11_6
  have r12_7 := Lib.hid (r11_7.out.below hb)
  clear r11_7
  have r12_8 := Lib.hid (r11_8.out.below hb)
  clear r11_8
  have r12_9 := Lib.hid (R_Q.out.below hb)
  clear R_Q
  clear hb
  clear hpl
  obtain ⟨vb, HVb⟩ : ∃ y, Hid (memOk l_b x_pages = y) := ⟨_, Lib.hid rfl⟩
  obtain ⟨vc, HVc⟩ : ∃ y, Hid (pageOk l_c = y) := ⟨_, Lib.hid rfl⟩
  obtain ⟨vd, HVd⟩ : ∃ y, Hid (decide (l_d = l_e) = y) := ⟨_, Lib.hid rfl⟩
  have hvb : (vb == vb) = true := by simp
  have hvc : (vc == vc) = true := by simp
  have hvd : (vd == vd) = true := by simp
  go_wp2_with fail
  refine (iMemOk_c A_b n_b c_b l_b x_pages _ r12_4.out (by omega) Sb.out).mono ?_
  rintro e w' ⟨rfl, rfl⟩
  rw [HVb.out]
  go_wp2_with fail
  refine (sMemOk_c A_b n_b c_b l_b x_pages _ r12_4.out (by omega) Sb.out).mono ?_
  rintro e w' ⟨rfl, rfl⟩
  rw [HVb.out]
  go_wp2_with fail
  refine (iPageOk_c A_c n_c c_c l_c _ r12_5.out (by omega)).mono ?_
  rintro e w' ⟨rfl, rfl⟩
  rw [HVc.out]
  go_wp2_with fail
  refine (sPageOk_c A_c n_c c_c l_c _ r12_5.out (by omega)).mono ?_
  rintro e w' ⟨rfl, rfl⟩
  rw [HVc.out]
  go_wp2_with fail
  refine (iSameMem_c A_d A_e n_d n_e c_d c_e l_d l_e _ r12_6.out r12_7.out (by omega) (by omega) Sd.out Se.out).mono ?_
  rintro e w13 ⟨rfl, hb⟩
  have B13 := B12.trans (hb.mono B12.size)
  clear B12
  have r13_0 := Lib.hid (r12_0.out.below hb)
  clear r12_0
  have r13_1 := Lib.hid (r12_1.out.below hb)
  clear r12_1
  have r13_2 := Lib.hid (r12_2.out.below hb)
  clear r12_2
  have r13_3 := Lib.hid (r12_4.out.below hb)
  clear r12_4
  have r13_4 := Lib.hid (r12_5.out.below hb)
  clear r12_5
  have r13_5 := Lib.hid (r12_6.out.below hb)
  clear r12_6
  have r13_6 := Lib.hid (r12_7.out.below hb)
  clear r12_7
  clear hb
  rw [HVd.out]
  go_wp2_with fail
  refine (sameMem_c A_d A_e n_d n_e c_d c_e l_d l_e _ r13_5.out r13_6.out (by omega) (by omega) Sd.out Se.out).mono ?_
  rintro e w14 ⟨rfl, hb⟩
  have B14 := B13.trans (hb.mono B13.size)
  clear B13
  have r14_0 := Lib.hid (r13_0.out.below hb)
  clear r13_0
  have r14_1 := Lib.hid (r13_1.out.below hb)
  clear r13_1
  have r14_2 := Lib.hid (r13_2.out.below hb)
  clear r13_2
  have r14_3 := Lib.hid (r13_3.out.below hb)
  clear r13_3
  have r14_4 := Lib.hid (r13_4.out.below hb)
  clear r13_4
  have r14_5 := Lib.hid (r13_5.out.below hb)
  clear r13_5
  have r14_6 := Lib.hid (r13_6.out.below hb)
  clear r13_6
  clear hb
  rw [HVd.out]
  have hml := memNew_len x_n
  have SN := Lib.hid (memNew_rows x_n)
  go_wp2_with fail
  refine (iMemNew_c x_n _).mono ?_
  rintro e w15 ⟨A_N, c_N, vs_N, rfl, own, hb⟩
  have Q := Lib.hid own.mx
  clear own
  have B15 := B14.trans (hb.mono B14.size)
  clear B14
  have r15_0 := Lib.hid (r14_0.out.below hb)
  clear r14_0
  have r15_1 := Lib.hid (r14_1.out.below hb)
  clear r14_1
  have r15_2 := Lib.hid (r14_2.out.below hb)
  clear r14_2
  clear hb
  have R_N := Q
  clear Q
  go_wp2_with fail
  refine (sMemNew_c x_n _).mono ?_
  rintro e w16 ⟨A_O, c_O, vs_O, rfl, own, hb⟩
  have Q := Lib.hid own.mx
  clear own
  have B16 := B15.trans (hb.mono B15.size)
  clear B15
  have r16_0 := Lib.hid (r15_0.out.below hb)
  clear r15_0
  have r16_1 := Lib.hid (r15_1.out.below hb)
  clear r15_1
  have r16_2 := Lib.hid (r15_2.out.below hb)
  clear r15_2
  have r16_3 := Lib.hid (R_N.out.below hb)
  clear R_N
  clear hb
  have R_O := Q
  clear Q
  go_wp2_with fail
  refine (sameMem_t A_N A_O _ c_N c_O (memNew x_n) _ r16_3.out R_O.out (by omega) SN.out).mono ?_
  rintro e w17 ⟨rfl, hb⟩
  have B17 := B16.trans (hb.mono B16.size)
  clear B16
  have r17_0 := Lib.hid (r16_0.out.below hb)
  clear r16_0
  have r17_1 := Lib.hid (r16_1.out.below hb)
  clear r16_1
  have r17_2 := Lib.hid (r16_2.out.below hb)
  clear r16_2
  have r17_3 := Lib.hid (r16_3.out.below hb)
  clear r16_3
  have r17_4 := Lib.hid (R_O.out.below hb)
  clear R_O
  clear hb
  clear hml
  obtain ⟨wo, hwo⟩ : ∃ x, x = w17 := ⟨_, rfl⟩
  subst hwo
  clear HVb HVc HVd hvb hvc hvd Sa Sb Sd Se S_a S_b S_d S_e M_p M_pages M_n M_page SN hn_a hn_b hn_c hn_d hn_e
  go_wp2
  go_loopw [15] (fun q wr => ∃ k : Nat, k ≤ n_m ∧ q = .int .i64 k ∧ Hid (Mx wr A_m n_m l_m) ∧ Hid (Mx wr A_X n_m (withPage l_m x_page l_cs)) ∧ Hid (Rd wr 1 A_cs n_cs (intCells l_cs)) ∧ Hid (Below w.heap.size w wr)) (fun q _ => n_m - (intOf q).toNat)
  case atStart => exact ⟨0, by omega, rfl, r17_0, r17_2, r17_1, Lib.hid B17⟩
  case round =>
    obtain ⟨k, hk, rfl, QM, QX, QC, QB⟩ := hrel
    clear r17_0 r17_2 r17_1 B17
    by_cases hlt : k < n_m
    · by_cases hp : (k : Int) = x_page
      · have hpb : ((k : Int) == x_page) = true := by simp [hp]
        have hpn : ((k : Int) != x_page) = false := by simp [hp]
        clear hp
        go_wp2_with fail
        refine wp_region_ext (by kernel_rfl) (by kernel_rfl) ?_
        repeat (go_big_quiet_step (fail))
        refine wpQuiet_nil ?_
        intro w9 hw'
        have hb9 := Ext.out hw'
        clear hw'
        have QM9 := Lib.hid (QM.out.below hb9)
        have QX9 := Lib.hid (QX.out.below hb9)
        have QC9 := Lib.hid (QC.out.below hb9)
        have QB9 := Lib.hid (QB.out.trans (hb9.mono QB.out.size))
        clear hb9 QM QX QC QB
        go_wp2
        go_roundw
        case rel => exact ⟨k + 1, by omega, by go_num, QM9, QX9, QC9, QB9⟩
        case measure => simp [intOf]; omega
      · have hpb : ((k : Int) == x_page) = false := by simp [hp]
        obtain ⟨bm, om, Ai, ci, l, rfl, hlk, c0, hrd⟩ := QM.out.row k hlt
        have HLW := Lib.hid (pages_law l_m x_page l_cs k l hlk hp)
        have HL5 := Lib.hid (S_m.out l (List.mem_of_getElem? hlk))
        have HRD := Lib.hid hrd
        clear hlk hrd hp
        have hBw := QB.out
        have hpn : ((k : Int) != x_page) = true := by simp [bne, hpb]
        have hl5 := HL5.out
        clear QB
        go_upto_region 15 with fail
        go_cut [116] (fun c wc => c = .bool false ∧ Below wr.heap.size wr wc)
        case first =>
          have hBB := Below.refl wr.heap.size wr
          have hD := (Below.refl wr.heap.size wr).drew
          have B18 := hBB.trans (hD.mono hBB.size)
          clear hBB
          have c18_0 := below_keep hD _ _ c0
          clear c0
          have r18_0 := Lib.hid (QM.out.below hD)
          clear QM
          have r18_1 := Lib.hid (QX.out.below hD)
          clear QX
          have r18_2 := Lib.hid (QC.out.below hD)
          clear QC
          have r18_3 := Lib.hid (HRD.out.below hD)
          clear HRD
          clear hD
          go_region_held3 (fun w' => w'.cell? ⟨bm, om + k, none⟩ = some (.slice Ai l.length ci)) (assumption) (first | (go_at_call 33; (with_reducible refine (iPageAt_v HLW.out A_X n_m c_X _ r18_1.out (by omega) SX.out).mono ?_); rintro e w18 ⟨A_Z, c_Z, rfl, own, hb⟩; have Q := Lib.hid (Rd.of_own own); clear own; have B19 := B18.trans (hb.mono B18.size); clear B18; have c19_0 := below_keep hb _ _ c18_0; clear c18_0; have r19_0 := Lib.hid (r18_0.out.below hb); clear r18_0; have r19_1 := Lib.hid (r18_1.out.below hb); clear r18_1; have r19_2 := Lib.hid (r18_2.out.below hb); clear r18_2; have r19_3 := Lib.hid (r18_3.out.below hb); clear r18_3; clear hb; have R_Z := Q; clear Q) | (go_at_call 51; (with_reducible refine (sameInts_t A_Z Ai l.length c_Z ci l _ R_Z.out r19_3.out (by omega)).mono ?_); rintro e w19 ⟨rfl, hb⟩; have B20 := B19.trans (hb.mono B19.size); clear B19; have c20_0 := below_keep hb _ _ c19_0; clear c19_0; have r20_0 := Lib.hid (r19_0.out.below hb); clear r19_0; have r20_1 := Lib.hid (r19_1.out.below hb); clear r19_1; have r20_2 := Lib.hid (r19_2.out.below hb); clear r19_2; have r20_3 := Lib.hid (r19_3.out.below hb); clear r19_3; have r20_4 := Lib.hid (R_Z.out.below hb); clear R_Z; clear hb))
          all_goals (go_wp2_with fail; go_meet; exact ⟨rfl, B20⟩)
        case rest =>
        obtain ⟨rfl, hb⟩ := hcut
        obtain ⟨w20, hwc⟩ : ∃ x, x = wc := ⟨_, rfl⟩
        subst hwc
        have B21 := hBw.trans (hb.mono hBw.size)
        clear hBw
        have c21_0 := below_keep hb _ _ c0
        clear c0
        have r21_0 := Lib.hid (QM.out.below hb)
        clear QM
        have r21_1 := Lib.hid (QX.out.below hb)
        clear QX
        have r21_2 := Lib.hid (QC.out.below hb)
        clear QC
        have r21_3 := Lib.hid (HRD.out.below hb)
        clear HRD
        clear hb
        have hBz := Lib.hid B21
        clear B21
        go_wp2
        go_roundw
        case rel => exact ⟨k + 1, by omega, by go_num, r21_0, r21_1, r21_2, hBz⟩
        case measure => simp [intOf]; omega
    · obtain rfl : k = n_m := by omega
      obtain ⟨wq, hwq⟩ : ∃ x, x = wr := ⟨_, rfl⟩
      subst hwq
      have BQ := QB.out
      clear QB
      have hlm := QM.out.1
      clear QM
      have hs0 : memNew 3 = [[0, 0, 0, 0], [0, 0, 0, 0], [0, 0, 0, 0]] := by decide
      have hc3 := iMemNew_c 3 wq
      rw [hs0] at hc3
      clear hs0
      have HC3 : Calls Try.prog 25 #[.int .i64 3] wq (MadeMx wq 3 [[0, 0, 0, 0], [0, 0, 0, 0], [0, 0, 0, 0]]) := hc3
      clear hc3
      go_wp2_with fail
      refine (HC3).mono ?_
      rintro e w81 ⟨A_Y, c_Y, vs_Y, rfl, own, hb⟩
      have Q := Lib.hid own.mx
      clear own
      have B81 := BQ.trans (hb.mono BQ.size)
      clear BQ
      have r81_0 := Lib.hid (QX.out.below hb)
      clear QX
      have r81_1 := Lib.hid (QC.out.below hb)
      clear QC
      clear hb
      have R_Y := Q
      clear Q
      clear HC3
      have hR3 : Rows [[0, 0, 0, 0], [0, 0, 0, 0], [0, 0, 0, 0]] := by intro i l hl; have := List.mem_of_getElem? hl; simp at this; subst this; simp
      go_wp2_with fail
      refine (iMemOk_v (show memOk [[0, 0, 0, 0], [0, 0, 0, 0], [0, 0, 0, 0]] 3 = true by decide) A_Y 3 c_Y _ R_Y.out (by omega) hR3).mono ?_
      rintro e w' ⟨rfl, rfl⟩
      clear hR3
      by_cases h1 : x_page < 0
      · go_wp2
        go_ret
        exact ⟨rfl, B81⟩
      by_cases h2 : (k : Int) ≤ x_page
      · go_wp2
        go_ret
        exact ⟨rfl, B81⟩
      obtain ⟨vp, hvp⟩ : ∃ y, pageOk l_cs = y := ⟨_, rfl⟩
      cases vp
      · go_wp2_with fail
        refine (sPageOk_v hvp A_cs n_cs c_cs _ r81_1.out (by omega)).mono ?_
        rintro e w' ⟨rfl, rfl⟩
        go_wp2
        go_ret
        exact ⟨rfl, B81⟩
      · have HPP := Lib.hid (page_put l_m x_page l_cs (by omega) (by omega) hvp)
        go_wp2_with fail
        refine (sPageOk_v hvp A_cs n_cs c_cs _ r81_1.out (by omega)).mono ?_
        rintro e w' ⟨rfl, rfl⟩
        have hlc := ints_len r81_1.out
        go_wp2_with fail
        refine (iPageAt_v HPP.out A_X k c_X _ r81_0.out (by omega) SX.out).mono ?_
        rintro e w82 ⟨A_Z, c_Z, rfl, own, hb⟩
        have Q := Lib.hid (Rd.of_own own)
        clear own
        have B82 := B81.trans (hb.mono B81.size)
        clear B81
        have r82_0 := Lib.hid (r81_0.out.below hb)
        clear r81_0
        have r82_1 := Lib.hid (r81_1.out.below hb)
        clear r81_1
        clear hb
        have R_Z := Q
        clear Q
        rw [hlc] at R_Z
        go_wp2_with fail
        refine (sameInts_t A_Z A_cs n_cs c_Z c_cs l_cs _ R_Z.out r82_1.out (by omega)).mono ?_
        rintro e w83 ⟨rfl, hb⟩
        have B83 := B82.trans (hb.mono B82.size)
        clear B82
        have r83_0 := Lib.hid (r82_0.out.below hb)
        clear r82_0
        have r83_1 := Lib.hid (r82_1.out.below hb)
        clear r82_1
        have r83_2 := Lib.hid (R_Z.out.below hb)
        clear R_Z
        clear hb
        go_wp2
        go_ret
        exact ⟨rfl, B83⟩

/-! ### The row's step -/
theorem own : ownKnob Try.prog.godebug = none := by kernel_rfl
theorem laidOut : laidOutB Try.prog = true := by kernel_rfl
set_option maxRecDepth 100000 in
theorem lifted (os : Os) (started : os.Started) (H : Type) (enc : TypeId × Value → H) :
    ReturnsInHanded {} Try.checked os 13 .any (Rows.fnPagesSpec.pre6 enc Try.prog Try.f13 Rows.fnPagesRow.domain false) (Rows.fnPagesSpec.post enc Try.prog Try.f13 false true false false) := by
  refine returnsInHanded_of_change (C := Try.checked) own started (by kernel_rfl) Try.func13
    (ChangeSpec.witness6 (enc := enc) (C := Try.checked) false ⟨#[], #[.slice none 0 0], []⟩ 8 (by kernel_rfl) (by kernel_rfl) (by kernel_rfl) (by kernel_rfl)) ?_
  intro W base args ds gs before hval0 hW hcnd _
  have hval : ∀ (j : Nat) t v, Try.f13.params[j]? = some t → args[j]? = some v → Value.okWide Try.prog W .any base t v := hval0
  have hW' := hW
  obtain ⟨p, q, hA0, hV, rfl, hfz, hnd⟩ := hW
  have hA : DataW.TrodAll enc Try.prog W 0 (fun _ => true) true Try.f13.params.toList args.toList ds p := hA0
  rw [Try.params13] at hA hval
  obtain ⟨v0, vs0, d0, ds0, p0, q0, hargs, rfl, rfl, h0, r0⟩ := trodAll_cons hA
  obtain ⟨rfl, rfl, rfl⟩ := trodAll_nil r0
  obtain rfl : args = #[v0] := by cases args; simp_all
  obtain ⟨rfl, rfl⟩ := trodVars_none hV
  have k0 := h0
  have lt0 : ∀ x ∈ p0, x.block < W.heap.size := by obtain ⟨m, hm⟩ := k0; exact DataW.trod_lt m _ _ _ hm
  obtain ⟨a0, len0, cap0, rfl⟩ := okWide_slice Try.underlying41 (hval 0 41 v0 rfl rfl)
  obtain ⟨l0, w0⟩ := opn_bytes k0
  clear hA0 hval0
  refine (walk a0 len0 cap0 l0 W w0).mono fun e W' ⟨he, bel⟩ => ?_
  subst he
  exact ⟨_, rfl, _, _, _, [], _, [], hW', trodAll_mk1 (shut_bool Try.underlying4 _), (trodAll_cons_mk (Below.trod laidOut (by kernel_rfl) (of_decide_eq_true (by kernel_rfl)) k0 bel lt0) trodAll_mk0), rfl, bel.frame _, fun h => by cases h⟩

theorem over : Rows.fnPagesRow.holds Try.pinned (OpenSpec.ofChange Rows.fnPagesSpec) :=
  OpenClaim.holds_of_wide 13 Try.f13 rfl rfl rfl rfl rfl rfl rfl ⟨rfl, rfl, rfl, rfl, rfl⟩ rfl rfl rfl rfl rfl (by kernel_rfl) Try.func13 (by kernel_rfl)
    (of_decide_eq_true (by kernel_rfl)) (by unfold Func.isWrapper; first | (rw [if_pos (by decide +kernel)]; kernel_rfl) | (rw [if_neg (by decide +kernel)]; exact ⟨rfl, rfl⟩))
    (fun os started H enc _ => lifted os started H enc)

/-- The statement. -/
theorem proved : Rows.FnPagesSaid := over
#print axioms proved
end Go.Proofs.Ytjgphiialfhdlaa.fnPages
