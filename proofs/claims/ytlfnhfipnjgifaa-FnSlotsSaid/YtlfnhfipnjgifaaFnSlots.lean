/- The law FnSlots returns true for every input. No condition. -/
import Derived.Test.YtlfnhfipnjgifaaRows
import Derived.Test.YtlfnhfipnjgifaaOpenB
import Derived.Test.YtlfnhfipnjgifaaDrawT
import Derived.Test.YtlfnhfipnjgifaaWith
import Derived.Test.YtlfnhfipnjgifaaTab
import Derived.Test.YtlfnhfipnjgifaaLoops2
import Derived.Test.YtlfnhfipnjgifaaRep
import Derived.Test.YtlfnhfipnjgifaaSameS
import Derived.Test.YtlfnhfipnjgifaaLawT
import Derived.WalkKit
import Derived.ProofKit
import Derived.OpenShut
import Derived.ShutString
import Derived.ChangeOld
import Derived.Below
import Derived.Handy
import Derived.Carry
import Derived.Lib.SmallJoins
import Derived.WalkLawsBesides
import Derived.WalkSpells
import Derived.BigQuiet
import Derived.Deep.QuietTactic
import Derived.Outline
import Derived.Deep.RegionWith
import Derived.Deep.RegionHeld3
import Derived.Deep.DeepCutAuto
namespace Go.Proofs.Ytlfnhfipnjgifaa.fnSlots
open Go.ChangeShapes Go.WideShapes Go.ChangeAt Go.RowKit
open Go.ChangeMaps (open_string shut_string)
set_option linter.unusedVariables false
set_option linter.unusedSimpArgs false

theorem field_c : ∀ w : World, (Instr.field 41 (.agg #[.int .i64 3, .int .i64 1]) 0).run Try.prog w = .ok (.int .i64 3) w := fun _ => by kernel_rfl
set_option maxHeartbeats 4000000 in
set_option maxRecDepth 20000 in
theorem walk (a0 : Option Addr) (len0 cap0 : Nat) (l0 : Nat) (w : World) (h0 : Bytes w w.heap.size a0 len0 ∧ len0 ≤ maxLen) :
    Calls Try.prog 13 #[.slice a0 len0 cap0] w fun e w' => e = .returned (.bool true) ∧ Below w.heap.size w w' := by
  obtain ⟨hb, hm⟩ := h0
  by_cases hbig : 1048576 < len0
  · go_enter Try.func13, Try.ntmps13
    go_wp2_with fail
    refine (big_c _ _ _ _ hm).mono ?_
    rintro e w' ⟨rfl, rfl⟩
    rw [decide_eq_true hbig]
    go_wp2
    go_ret
    exact ⟨rfl, Below.refl _ _⟩
  have hle : len0 ≤ 1048576 := by omega
  have HB := Lib.hid hb
  clear hb
  go_enter Try.func13, Try.ntmps13
  go_wp2_with fail
  refine (big_c _ _ _ _ hm).mono ?_
  rintro e w' ⟨rfl, rfl⟩
  rw [decide_eq_false hbig]
  clear hbig hm
  have B0 := Below.refl w.heap.size w
  go_wp2_with fail
  refine (DrawWithSlot_c a0 len0 cap0 _ HB.out hle).mono ?_
  rintro e w1 ⟨A_t, n_t, c_t, l_t, x_page, p_s, r_s, rfl, D_t, m_page, hb⟩
  have B1 := B0.trans (hb.mono B0.size)
  clear B0
  have HB1 := Lib.hid (HB.out.grow hb)
  clear HB
  clear hb
  have hn_t := D_t.1
  have R_t := Lib.hid D_t.2
  clear D_t
  have M_page := Lib.hid m_page
  clear m_page
  have X := Box.new w1 p_s r_s
  have bx0_s := X.c0
  have bx1_s := X.c1
  clear X
  have hA := (Below.refl (w1).heap.size (w1)).alloc (Nat.le_refl _) (.cells #[.int .i64 p_s, .int .i64 r_s] 41)
  have B2 := B1.trans (hA.mono B1.size)
  clear B1
  have r2_0 := Lib.hid (R_t.out.below hA)
  clear R_t
  have HB2 := Lib.hid (HB1.out.grow hA)
  clear HB1
  clear hA
  go_wp2_with fail
  refine (iWithSlot_c x_page A_t n_t c_t l_t p_s r_s _ r2_0.out (by omega)).mono ?_
  rintro e w2 ⟨A_X, c_X, rfl, own, hb⟩
  have Q := Lib.hid (Rd.of_own own)
  clear own
  have B3 := B2.trans (hb.mono B2.size)
  clear B2
  have c3_0 := below_keep hb _ _ bx0_s
  clear bx0_s
  have c3_1 := below_keep hb _ _ bx1_s
  clear bx1_s
  have r3_0 := Lib.hid (r2_0.out.below hb)
  clear r2_0
  have HB3 := Lib.hid (HB2.out.grow hb)
  clear HB2
  clear hb
  have R_X := Q
  clear Q
  go_wp2_with fail
  refine (DrawSlotAt_c a0 len0 cap0 _ HB3.out hle).mono ?_
  rintro e w3 ⟨A_a, n_a, c_a, l_a, x_at, rfl, D_a, m_at, hb⟩
  have B4 := B3.trans (hb.mono B3.size)
  clear B3
  have c4_0 := below_keep hb _ _ c3_0
  clear c3_0
  have c4_1 := below_keep hb _ _ c3_1
  clear c3_1
  have r4_0 := Lib.hid (r3_0.out.below hb)
  clear r3_0
  have r4_1 := Lib.hid (R_X.out.below hb)
  clear R_X
  have HB4 := Lib.hid (HB3.out.grow hb)
  clear HB3
  clear hb
  have hn_a := D_a.1
  have R_a := Lib.hid D_a.2
  clear D_a
  have M_at := Lib.hid m_at
  clear m_at
  go_wp2_with fail
  refine (DrawSlotOk_c a0 len0 cap0 _ HB4.out hle).mono ?_
  rintro e w4 ⟨p_o, r_o, x_pg, rfl, m_pg, hb⟩
  have B5 := B4.trans (hb.mono B4.size)
  clear B4
  have c5_0 := below_keep hb _ _ c4_0
  clear c4_0
  have c5_1 := below_keep hb _ _ c4_1
  clear c4_1
  have r5_0 := Lib.hid (r4_0.out.below hb)
  clear r4_0
  have r5_1 := Lib.hid (r4_1.out.below hb)
  clear r4_1
  have r5_2 := Lib.hid (R_a.out.below hb)
  clear R_a
  have HB5 := Lib.hid (HB4.out.grow hb)
  clear HB4
  clear hb
  have M_pg := Lib.hid m_pg
  clear m_pg
  have X := Box.new w4 p_o r_o
  have bx0_o := X.c0
  have bx1_o := X.c1
  clear X
  have hA := (Below.refl (w4).heap.size (w4)).alloc (Nat.le_refl _) (.cells #[.int .i64 p_o, .int .i64 r_o] 41)
  have B6 := B5.trans (hA.mono B5.size)
  clear B5
  have c6_0 := below_keep hA _ _ c5_0
  clear c5_0
  have c6_1 := below_keep hA _ _ c5_1
  clear c5_1
  have r6_0 := Lib.hid (r5_0.out.below hA)
  clear r5_0
  have r6_1 := Lib.hid (r5_1.out.below hA)
  clear r5_1
  have r6_2 := Lib.hid (r5_2.out.below hA)
  clear r5_2
  have HB6 := Lib.hid (HB5.out.grow hA)
  clear HB5
  clear hA
  go_wp2_with fail
  refine (DrawTableOk_c a0 len0 cap0 _ HB6.out hle).mono ?_
  rintro e w5 ⟨A_b, n_b, c_b, l_b, x_sz, x_many, rfl, D_b, m_sz, m_many, hb⟩
  have B7 := B6.trans (hb.mono B6.size)
  clear B6
  have c7_0 := below_keep hb _ _ c6_0
  clear c6_0
  have c7_1 := below_keep hb _ _ c6_1
  clear c6_1
  have c7_2 := below_keep hb _ _ bx0_o
  clear bx0_o
  have c7_3 := below_keep hb _ _ bx1_o
  clear bx1_o
  have r7_0 := Lib.hid (r6_0.out.below hb)
  clear r6_0
  have r7_1 := Lib.hid (r6_1.out.below hb)
  clear r6_1
  have r7_2 := Lib.hid (r6_2.out.below hb)
  clear r6_2
  have HB7 := Lib.hid (HB6.out.grow hb)
  clear HB6
  clear hb
  have hn_b := D_b.1
  have R_b := Lib.hid D_b.2
  clear D_b
  have M_sz := Lib.hid m_sz
  clear m_sz
  have M_many := Lib.hid m_many
  clear m_many
  obtain ⟨⟨pa, ra⟩, hs⟩ : ∃ y, slotAt l_a x_at = y := ⟨_, rfl⟩
  have HS := Lib.hid hs
  clear hs
  have hpg := M_pg.out.2
  have hmany := M_many.out.2
  have HPG := Lib.hid hpg
  have HMA := Lib.hid hmany
  clear hpg hmany
  go_upto_region 8 with fail
  go_cut [80] (fun c wc => c = .bool false ∧ Below w5.heap.size w5 wc)
  case first =>
    have hBB := Below.refl w5.heap.size w5
    have hD := (Below.refl w5.heap.size w5).drew
    have B8 := hBB.trans (hD.mono hBB.size)
    clear hBB
    have c8_0 := below_keep hD _ _ c7_0
    clear c7_0
    have c8_1 := below_keep hD _ _ c7_1
    clear c7_1
    have c8_2 := below_keep hD _ _ c7_2
    clear c7_2
    have c8_3 := below_keep hD _ _ c7_3
    clear c7_3
    have r8_0 := Lib.hid (r7_0.out.below hD)
    clear r7_0
    have r8_1 := Lib.hid (r7_1.out.below hD)
    clear r7_1
    have r8_2 := Lib.hid (r7_2.out.below hD)
    clear r7_2
    have r8_3 := Lib.hid (R_b.out.below hD)
    clear R_b
    clear hD
    go_region_held3 (fun w' => w'.cell? ⟨w1.heap.size, 0, none⟩ = some (.int .i64 p_s) ∧ w'.cell? ⟨w1.heap.size, 1, none⟩ = some (.int .i64 r_s) ∧ w'.cell? ⟨w4.heap.size, 0, none⟩ = some (.int .i64 p_o) ∧ w'.cell? ⟨w4.heap.size, 1, none⟩ = some (.int .i64 r_o)) (refine ⟨?_, ?_, ?_, ?_⟩ <;> assumption) (first | (go_at_call 78; (with_reducible refine (sWithSlot_c x_page A_t n_t c_t l_t p_s r_s _ r8_0.out (by omega)).mono ?_); rintro e w6 ⟨A_W, c_W, rfl, own, hb⟩; have Q := Lib.hid (Rd.of_own own); clear own; have B9 := B8.trans (hb.mono B8.size); clear B8; have c9_0 := below_keep hb _ _ c8_0; clear c8_0; have c9_1 := below_keep hb _ _ c8_1; clear c8_1; have c9_2 := below_keep hb _ _ c8_2; clear c8_2; have c9_3 := below_keep hb _ _ c8_3; clear c8_3; have r9_0 := Lib.hid (r8_0.out.below hb); clear r8_0; have r9_1 := Lib.hid (r8_1.out.below hb); clear r8_1; have r9_2 := Lib.hid (r8_2.out.below hb); clear r8_2; have r9_3 := Lib.hid (r8_3.out.below hb); clear r8_3; clear hb; have R_W := Q; clear Q) | (go_at_call 42; (with_reducible refine (sameSlots_t A_X A_W n_t c_X c_W (withSlot l_t x_page (p_s, r_s)) _ r9_1.out R_W.out (by omega)).mono ?_); rintro e w7 ⟨rfl, hb⟩; have B10 := B9.trans (hb.mono B9.size); clear B9; have c10_0 := below_keep hb _ _ c9_0; clear c9_0; have c10_1 := below_keep hb _ _ c9_1; clear c9_1; have c10_2 := below_keep hb _ _ c9_2; clear c9_2; have c10_3 := below_keep hb _ _ c9_3; clear c9_3; have r10_0 := Lib.hid (r9_0.out.below hb); clear r9_0; have r10_1 := Lib.hid (r9_1.out.below hb); clear r9_1; have r10_2 := Lib.hid (r9_2.out.below hb); clear r9_2; have r10_3 := Lib.hid (r9_3.out.below hb); clear r9_3; have r10_4 := Lib.hid (R_W.out.below hb); clear R_W; clear hb) | (go_at_call 79; (with_reducible refine (iSlotAt_c A_a n_a c_a l_a x_at _ r10_2.out (by omega) HS.out).mono ?_); rintro e w8 ⟨rfl, hb⟩; have B11 := B10.trans (hb.mono B10.size); clear B10; have c11_0 := below_keep hb _ _ c10_0; clear c10_0; have c11_1 := below_keep hb _ _ c10_1; clear c10_1; have c11_2 := below_keep hb _ _ c10_2; clear c10_2; have c11_3 := below_keep hb _ _ c10_3; clear c10_3; have r11_0 := Lib.hid (r10_0.out.below hb); clear r10_0; have r11_1 := Lib.hid (r10_1.out.below hb); clear r10_1; have r11_2 := Lib.hid (r10_2.out.below hb); clear r10_2; have r11_3 := Lib.hid (r10_3.out.below hb); clear r10_3; have r11_4 := Lib.hid (r10_4.out.below hb); clear r10_4; clear hb) | (go_at_call 65; (with_reducible refine (sSlotAt_c A_a n_a c_a l_a x_at _ r11_2.out (by omega) HS.out).mono ?_); rintro e w9 ⟨rfl, hb⟩; have B12 := B11.trans (hb.mono B11.size); clear B11; have c12_0 := below_keep hb _ _ c11_0; clear c11_0; have c12_1 := below_keep hb _ _ c11_1; clear c11_1; have c12_2 := below_keep hb _ _ c11_2; clear c11_2; have c12_3 := below_keep hb _ _ c11_3; clear c11_3; have r12_0 := Lib.hid (r11_0.out.below hb); clear r11_0; have r12_1 := Lib.hid (r11_1.out.below hb); clear r11_1; have r12_2 := Lib.hid (r11_2.out.below hb); clear r11_2; have r12_3 := Lib.hid (r11_3.out.below hb); clear r11_3; have r12_4 := Lib.hid (r11_4.out.below hb); clear r11_4; clear hb) | (go_at_call 80; (with_reducible refine (iSlotOk_c p_o r_o x_pg _ HPG.out).mono ?_); rintro e w10 ⟨rfl, hb⟩; have B13 := B12.trans (hb.mono B12.size); clear B12; have c13_0 := below_keep hb _ _ c12_0; clear c12_0; have c13_1 := below_keep hb _ _ c12_1; clear c12_1; have c13_2 := below_keep hb _ _ c12_2; clear c12_2; have c13_3 := below_keep hb _ _ c12_3; clear c12_3; have r13_0 := Lib.hid (r12_0.out.below hb); clear r12_0; have r13_1 := Lib.hid (r12_1.out.below hb); clear r12_1; have r13_2 := Lib.hid (r12_2.out.below hb); clear r12_2; have r13_3 := Lib.hid (r12_3.out.below hb); clear r12_3; have r13_4 := Lib.hid (r12_4.out.below hb); clear r12_4; clear hb) | (go_at_call 81; (with_reducible refine (sSlotOk_c p_o r_o x_pg _ HPG.out).mono ?_); rintro e w11 ⟨rfl, hb⟩; have B14 := B13.trans (hb.mono B13.size); clear B13; have c14_0 := below_keep hb _ _ c13_0; clear c13_0; have c14_1 := below_keep hb _ _ c13_1; clear c13_1; have c14_2 := below_keep hb _ _ c13_2; clear c13_2; have c14_3 := below_keep hb _ _ c13_3; clear c13_3; have r14_0 := Lib.hid (r13_0.out.below hb); clear r13_0; have r14_1 := Lib.hid (r13_1.out.below hb); clear r13_1; have r14_2 := Lib.hid (r13_2.out.below hb); clear r13_2; have r14_3 := Lib.hid (r13_3.out.below hb); clear r13_3; have r14_4 := Lib.hid (r13_4.out.below hb); clear r13_4; clear hb) | (go_at_call 44; (with_reducible refine (iTableOk_c A_b n_b c_b l_b x_sz x_many _ r14_3.out (by omega) HMA.out).mono ?_); rintro e w12 ⟨rfl, hb⟩; have B15 := B14.trans (hb.mono B14.size); clear B14; have c15_0 := below_keep hb _ _ c14_0; clear c14_0; have c15_1 := below_keep hb _ _ c14_1; clear c14_1; have c15_2 := below_keep hb _ _ c14_2; clear c14_2; have c15_3 := below_keep hb _ _ c14_3; clear c14_3; have r15_0 := Lib.hid (r14_0.out.below hb); clear r14_0; have r15_1 := Lib.hid (r14_1.out.below hb); clear r14_1; have r15_2 := Lib.hid (r14_2.out.below hb); clear r14_2; have r15_3 := Lib.hid (r14_3.out.below hb); clear r14_3; have r15_4 := Lib.hid (r14_4.out.below hb); clear r14_4; clear hb) | (go_at_call 82; (with_reducible refine (sTableOk_c A_b n_b c_b l_b x_sz x_many _ r15_3.out (by omega) HMA.out).mono ?_); rintro e w13 ⟨rfl, hb⟩; have B16 := B15.trans (hb.mono B15.size); clear B15; have c16_0 := below_keep hb _ _ c15_0; clear c15_0; have c16_1 := below_keep hb _ _ c15_1; clear c15_1; have c16_2 := below_keep hb _ _ c15_2; clear c15_2; have c16_3 := below_keep hb _ _ c15_3; clear c15_3; have r16_0 := Lib.hid (r15_0.out.below hb); clear r15_0; have r16_1 := Lib.hid (r15_1.out.below hb); clear r15_1; have r16_2 := Lib.hid (r15_2.out.below hb); clear r15_2; have r16_3 := Lib.hid (r15_3.out.below hb); clear r15_3; have r16_4 := Lib.hid (r15_4.out.below hb); clear r15_4; clear hb))
    all_goals (go_wp2_with fail; go_meet; exact ⟨rfl, B16⟩)
  case rest =>
  obtain ⟨rfl, hb⟩ := hcut
  obtain ⟨w14, hwc⟩ : ∃ x, x = wc := ⟨_, rfl⟩
  subst hwc
  have B17 := B7.trans (hb.mono B7.size)
  clear B7
  have c17_0 := below_keep hb _ _ c7_0
  clear c7_0
  have c17_1 := below_keep hb _ _ c7_1
  clear c7_1
  have c17_2 := below_keep hb _ _ c7_2
  clear c7_2
  have c17_3 := below_keep hb _ _ c7_3
  clear c7_3
  have r17_0 := Lib.hid (r7_0.out.below hb)
  clear r7_0
  have r17_1 := Lib.hid (r7_1.out.below hb)
  clear r7_1
  have r17_2 := Lib.hid (r7_2.out.below hb)
  clear r7_2
  have r17_3 := Lib.hid (R_b.out.below hb)
  clear R_b
  have HB17 := Lib.hid (HB7.out.grow hb)
  clear HB7
  clear hb
  have C0 : Hid (w14.cell? ⟨w1.heap.size, 0, none⟩ = some (.int .i64 p_s)) := Lib.hid c17_0
  have C1 : Hid (w14.cell? ⟨w1.heap.size, 1, none⟩ = some (.int .i64 r_s)) := Lib.hid c17_1
  clear c17_0 c17_1 c17_2 c17_3
  go_wp2
  go_loopw [14] (fun q wr => ∃ k : Nat, k ≤ n_t ∧ q = .int .i64 k ∧ Hid (wr.cell? ⟨w1.heap.size, 0, none⟩ = some (.int .i64 p_s)) ∧ Hid (wr.cell? ⟨w1.heap.size, 1, none⟩ = some (.int .i64 r_s)) ∧ Hid (Rd wr 2 A_t n_t (slotCells l_t)) ∧ Hid (Rd wr 2 A_X n_t (slotCells (withSlot l_t x_page (p_s, r_s)))) ∧ Hid (Bytes wr wr.heap.size a0 len0) ∧ Hid (Below w.heap.size w wr)) (fun q _ => n_t - (intOf q).toNat)
  case atStart => exact ⟨0, by omega, rfl, C0, C1, r17_0, r17_1, HB17, Lib.hid B17⟩
  case round =>
    obtain ⟨k, hk, rfl, D0, D1, RT, RX, HQ, BW⟩ := hrel
    clear C0 C1 r17_0 r17_1 r17_2 r17_3 HB17 B17
    by_cases hlt : k < n_t
    · obtain ⟨bt, ot, pp, rr, rfl, hlk, c0, c1⟩ := RT.out.slot k hlt
      have hsw := slotAt_with l_t x_page (p_s, r_s) (pp, rr) k hlk
      have HSW := Lib.hid hsw
      clear hsw hlk
      have d0 := D0.out
      have d1 := D1.out
      by_cases hp : (k : Int) = x_page
      · skip
        have hpb : ((k : Int) == x_page) = true := by simp [hp]
        have HS2 : Hid (slotAt (withSlot l_t x_page (p_s, r_s)) (k : Int) = (p_s, r_s)) := Lib.hid (by rw [HSW.out, if_pos hp])
        clear HSW hp
        have hA := (Below.refl wr.heap.size wr).alloc (Nat.le_refl _) (.cells #[.int .i64 pp, .int .i64 rr] 41)
        have e0 := below_keep hA _ _ d0
        have e1 := below_keep hA _ _ d1
        clear hA
        have hB := (Below.refl wr.heap.size wr).alloc (Nat.le_refl _) (.cells #[.int .i64 p_s, .int .i64 r_s] 41)
        have X := Box.new wr p_s r_s
        have x0 := Lib.hid X
        clear X
        have RX2 := Lib.hid (RX.out.below hB)
        have RT2 := Lib.hid (RT.out.below hB)
        have HQ2 := Lib.hid (HQ.out.grow hB)
        have BW2 := Lib.hid (BW.out.trans (hB.mono BW.out.size))
        have F0 := Lib.hid (below_keep hB _ _ d0)
        have F1 := Lib.hid (below_keep hB _ _ d1)
        clear hB D0 D1 RT RX HQ BW
        have xx0 : ∀ x : Ext _, x.w.cell? _ = _ := fun x => (x.cell (World.block_lt_of_cell? _ _ x0.out.c0)).trans x0.out.c0
        have xx1 : ∀ x : Ext _, x.w.cell? _ = _ := fun x => (x.cell (World.block_lt_of_cell? _ _ x0.out.c1)).trans x0.out.c1
        go_wp2_with fail
        refine wp_region_ext (by kernel_rfl) (by kernel_rfl) ?_
        repeat (go_big_quiet_step ((go_at_call 79; exact Ext.call _ (iSlotAt_c A_X n_t c_X (withSlot l_t x_page (p_s, r_s)) (k : Int) _ (RX2.out.below (Ext.below _)) (by omega) HS2.out))))
        refine wpQuiet_nil ?_
        intro w9 hw'
        have hb9 := Ext.out hw'
        clear hw' xx0 xx1
        have x1 := (x0.out.below hb9).c0
        have x2 := (x0.out.below hb9).c1
        have RX3 := Lib.hid (RX2.out.below hb9)
        have RT3 := Lib.hid (RT2.out.below hb9)
        have HQ3 := Lib.hid (HQ2.out.grow hb9)
        have BW3 := Lib.hid (BW2.out.trans (hb9.mono BW2.out.size))
        have G0 := Lib.hid (below_keep hb9 _ _ F0.out)
        have G1 := Lib.hid (below_keep hb9 _ _ F1.out)
        clear hb9 RX2 RT2 HQ2 BW2 F0 F1 d0 d1 e0 e1 c0 c1 x0
        go_wp2
        go_roundw
        case rel => exact ⟨k + 1, by omega, by go_num, G0, G1, RT3, RX3, HQ3, BW3⟩
        case measure => simp [intOf]; omega
      · skip
        have hpb : ((k : Int) == x_page) = false := by simp [hp]
        have HS2 : Hid (slotAt (withSlot l_t x_page (p_s, r_s)) (k : Int) = (pp, rr)) := Lib.hid (by rw [HSW.out, if_neg hp])
        clear HSW hp
        have hA := (Below.refl wr.heap.size wr).alloc (Nat.le_refl _) (.cells #[.int .i64 pp, .int .i64 rr] 41)
        have e0 := below_keep hA _ _ d0
        have e1 := below_keep hA _ _ d1
        clear hA
        have hB := (Below.refl wr.heap.size wr).alloc (Nat.le_refl _) (.cells #[.int .i64 pp, .int .i64 rr] 41)
        have X := Box.new wr pp rr
        have x0 := Lib.hid X
        clear X
        have RX2 := Lib.hid (RX.out.below hB)
        have RT2 := Lib.hid (RT.out.below hB)
        have HQ2 := Lib.hid (HQ.out.grow hB)
        have BW2 := Lib.hid (BW.out.trans (hB.mono BW.out.size))
        have F0 := Lib.hid (below_keep hB _ _ d0)
        have F1 := Lib.hid (below_keep hB _ _ d1)
        clear hB D0 D1 RT RX HQ BW
        have xx0 : ∀ x : Ext _, x.w.cell? _ = _ := fun x => (x.cell (World.block_lt_of_cell? _ _ x0.out.c0)).trans x0.out.c0
        have xx1 : ∀ x : Ext _, x.w.cell? _ = _ := fun x => (x.cell (World.block_lt_of_cell? _ _ x0.out.c1)).trans x0.out.c1
        go_wp2_with fail
        refine wp_region_ext (by kernel_rfl) (by kernel_rfl) ?_
        repeat (go_big_quiet_step ((go_at_call 79; exact Ext.call _ (iSlotAt_c A_X n_t c_X (withSlot l_t x_page (p_s, r_s)) (k : Int) _ (RX2.out.below (Ext.below _)) (by omega) HS2.out))))
        refine wpQuiet_nil ?_
        intro w9 hw'
        have hb9 := Ext.out hw'
        clear hw' xx0 xx1
        have x1 := (x0.out.below hb9).c0
        have x2 := (x0.out.below hb9).c1
        have RX3 := Lib.hid (RX2.out.below hb9)
        have RT3 := Lib.hid (RT2.out.below hb9)
        have HQ3 := Lib.hid (HQ2.out.grow hb9)
        have BW3 := Lib.hid (BW2.out.trans (hb9.mono BW2.out.size))
        have G0 := Lib.hid (below_keep hb9 _ _ F0.out)
        have G1 := Lib.hid (below_keep hb9 _ _ F1.out)
        clear hb9 RX2 RT2 HQ2 BW2 F0 F1 d0 d1 e0 e1 c0 c1 x0
        go_wp2
        go_roundw
        case rel => exact ⟨k + 1, by omega, by go_num, G0, G1, RT3, RX3, HQ3, BW3⟩
        case measure => simp [intOf]; omega
    · obtain rfl : n_t = k := by omega
      obtain ⟨wq, hwo⟩ : ∃ x, x = wr := ⟨_, rfl⟩
      subst hwo
      have BP := BW.out
      clear BW D0 D1
      go_wp2_with fail
      refine (DrawTableNew_c a0 len0 cap0 _ HQ.out hle).mono ?_
      rintro e w91 ⟨x_n, rfl, m_n, hb⟩
      have B91 := BP.trans (hb.mono BP.size)
      clear BP
      have r91_0 := Lib.hid (RT.out.below hb)
      clear RT
      have r91_1 := Lib.hid (RX.out.below hb)
      clear RX
      have HB91 := Lib.hid (HQ.out.grow hb)
      clear HQ
      clear hb
      have M_n := Lib.hid m_n
      clear m_n
      obtain ⟨kn, hkn, hkn24⟩ := brought24 x_n
      have HKN := Lib.hid hkn
      clear hkn
      go_wp2_with fail
      refine (iTableNew_k HKN.out _).mono ?_
      rintro e w92 ⟨A_N, c_N, rfl, own, hb⟩
      have Q := Lib.hid (Rd.of_own own)
      clear own
      have B92 := B91.trans (hb.mono B91.size)
      clear B91
      have r92_0 := Lib.hid (r91_0.out.below hb)
      clear r91_0
      have r92_1 := Lib.hid (r91_1.out.below hb)
      clear r91_1
      clear hb
      have R_N := Q
      clear Q
      go_wp2_with fail
      refine (sTableNew_k HKN.out _).mono ?_
      rintro e w93 ⟨A_M, c_M, rfl, own, hb⟩
      have Q := Lib.hid (Rd.of_own own)
      clear own
      have B93 := B92.trans (hb.mono B92.size)
      clear B92
      have r93_0 := Lib.hid (r92_0.out.below hb)
      clear r92_0
      have r93_1 := Lib.hid (r92_1.out.below hb)
      clear r92_1
      have r93_2 := Lib.hid (R_N.out.below hb)
      clear R_N
      clear hb
      have R_M := Q
      clear Q
      go_wp2_with fail
      refine (sameSlots_t A_N A_M kn c_N c_M (List.replicate kn noSlot) _ r93_2.out R_M.out (by omega)).mono ?_
      rintro e w94 ⟨rfl, hb⟩
      have B94 := B93.trans (hb.mono B93.size)
      clear B93
      have r94_0 := Lib.hid (r93_0.out.below hb)
      clear r93_0
      have r94_1 := Lib.hid (r93_1.out.below hb)
      clear r93_1
      have r94_2 := Lib.hid (r93_2.out.below hb)
      clear r93_2
      have r94_3 := Lib.hid (R_M.out.below hb)
      clear R_M
      clear hb
      go_wp2_with fail
      refine (iNoSlot_c _).mono ?_
      rintro e w95 ⟨rfl, hb⟩
      have B95 := B94.trans (hb.mono B94.size)
      clear B94
      have r95_0 := Lib.hid (r94_0.out.below hb)
      clear r94_0
      have r95_1 := Lib.hid (r94_1.out.below hb)
      clear r94_1
      have r95_2 := Lib.hid (r94_2.out.below hb)
      clear r94_2
      have r95_3 := Lib.hid (r94_3.out.below hb)
      clear r94_3
      clear hb
      have O := Rd.of_own (World.ownsRow_lit (base := w95.heap.size) (e := 41) (size := 2) w95 #[.int .i64 3, .int .i64 1] 1 (Nat.le_refl _) (by unfold maxLen; omega) (by simp))
      have L_e : Hid (Rd (w95.alloc (.cells #[.int .i64 3, .int .i64 1] 41)) 2 (some ⟨w95.heap.size, 0, none⟩) 1 (slotCells [(3, 1)])) := Lib.hid O
      clear O
      have hA := (Below.refl (w95).heap.size (w95)).alloc (Nat.le_refl _) (.cells #[.int .i64 3, .int .i64 1] 41)
      have B96 := B95.trans (hA.mono B95.size)
      clear B95
      have r96_0 := Lib.hid (r95_0.out.below hA)
      clear r95_0
      have r96_1 := Lib.hid (r95_1.out.below hA)
      clear r95_1
      have r96_2 := Lib.hid (r95_2.out.below hA)
      clear r95_2
      have r96_3 := Lib.hid (r95_3.out.below hA)
      clear r95_3
      clear hA
      go_wp2_with fail
      refine (iSlotAt_c (some ⟨w95.heap.size, 0, none⟩) 1 1 [(3, 1)] 0 _ L_e.out (by omega) (by decide : slotAt [(3, 1)] 0 = (3, 1))).mono ?_
      rintro e w96 ⟨rfl, hb⟩
      have B97 := B96.trans (hb.mono B96.size)
      clear B96
      have r97_0 := Lib.hid (r96_0.out.below hb)
      clear r96_0
      have r97_1 := Lib.hid (r96_1.out.below hb)
      clear r96_1
      have r97_2 := Lib.hid (r96_2.out.below hb)
      clear r96_2
      have r97_3 := Lib.hid (r96_3.out.below hb)
      clear r96_3
      have r97_4 := Lib.hid (L_e.out.below hb)
      clear L_e
      clear hb
      have hf := field_c
      go_wp2
      go_ret
      exact ⟨rfl, B97⟩

/-! ### The row's step -/
theorem own : ownKnob Try.prog.godebug = none := by kernel_rfl
theorem laidOut : laidOutB Try.prog = true := by kernel_rfl
set_option maxRecDepth 100000 in
theorem lifted (os : Os) (started : os.Started) (H : Type) (enc : TypeId × Value → H) :
    ReturnsInHanded {} Try.checked os 13 .any (Rows.fnSlotsSpec.pre6 enc Try.prog Try.f13 Rows.fnSlotsRow.domain false) (Rows.fnSlotsSpec.post enc Try.prog Try.f13 false true false false) := by
  refine returnsInHanded_of_change (C := Try.checked) own started (by kernel_rfl) Try.func13
    (ChangeSpec.witness6 (enc := enc) (C := Try.checked) false ⟨#[], #[.slice none 0 0], []⟩ 8 (by kernel_rfl) (by kernel_rfl) (by kernel_rfl) (by kernel_rfl)) ?_
  intro W base args ds gs before hval0 hW hcnd _
  have hval : ∀ (j : Nat) t v, Try.f13.params[j]? = some t → args[j]? = some v → Value.okWide Try.prog W .any base t v := hval0
  have hW' := hW
  obtain ⟨p, q, hA0, hV, rfl, hfz, hnd⟩ := hW
  have hA : DataW.TrodAll enc Try.prog W 0 (fun _ => true) true Try.f13.params.toList args.toList ds p := hA0
  rw [Try.params13] at hA hval
  obtain ⟨v0, vs0, d0, ds0, p0, q0, hargs, rfl, rfl, h0, r0⟩ := trodAll_cons hA
  obtain ⟨rfl, rfl, rfl⟩ := trodAll_nil r0
  obtain rfl : args = #[v0] := by cases args; simp_all
  obtain ⟨rfl, rfl⟩ := trodVars_none hV
  have k0 := h0
  have lt0 : ∀ x ∈ p0, x.block < W.heap.size := by obtain ⟨m, hm⟩ := k0; exact DataW.trod_lt m _ _ _ hm
  obtain ⟨a0, len0, cap0, rfl⟩ := okWide_slice Try.underlying53 (hval 0 53 v0 rfl rfl)
  obtain ⟨l0, w0⟩ := opn_bytes k0
  clear hA0 hval0
  refine (walk a0 len0 cap0 l0 W w0).mono fun e W' ⟨he, bel⟩ => ?_
  subst he
  exact ⟨_, rfl, _, _, _, [], _, [], hW', trodAll_mk1 (shut_bool Try.underlying4 _), (trodAll_cons_mk (Below.trod laidOut (by kernel_rfl) (of_decide_eq_true (by kernel_rfl)) k0 bel lt0) trodAll_mk0), rfl, bel.frame _, fun h => by cases h⟩

theorem over : Rows.fnSlotsRow.holds Try.pinned (OpenSpec.ofChange Rows.fnSlotsSpec) :=
  OpenClaim.holds_of_wide 13 Try.f13 rfl rfl rfl rfl rfl rfl rfl ⟨rfl, rfl, rfl, rfl, rfl⟩ rfl rfl rfl rfl rfl (by kernel_rfl) Try.func13 (by kernel_rfl)
    (of_decide_eq_true (by kernel_rfl)) (by unfold Func.isWrapper; first | (rw [if_pos (by decide +kernel)]; kernel_rfl) | (rw [if_neg (by decide +kernel)]; exact ⟨rfl, rfl⟩))
    (fun os started H enc _ => lifted os started H enc)

/-- The statement. -/
theorem proved : Rows.FnSlotsSaid := over
#print axioms proved
end Go.Proofs.Ytlfnhfipnjgifaa.fnSlots
