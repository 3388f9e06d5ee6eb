/- The law FnUses returns true for every input. No condition. -/
import Derived.Test.YtlfnhfipnjgifaaRows
import Derived.Test.YtlfnhfipnjgifaaOpenB
import Derived.Test.YtlfnhfipnjgifaaDrawU
import Derived.Test.YtlfnhfipnjgifaaUses
import Derived.Test.YtlfnhfipnjgifaaSame
import Derived.Test.YtlfnhfipnjgifaaLoops1
import Derived.Test.YtlfnhfipnjgifaaSameS
import Derived.Test.YtlfnhfipnjgifaaLawU
import Derived.WalkKit
import Derived.ProofKit
import Derived.OpenShut
import Derived.ShutString
import Derived.ChangeOld
import Derived.Below
import Derived.Handy
import Derived.Carry
import Derived.Lib.SmallJoins
import Derived.WalkLawsBesides
import Derived.WalkSpells
import Derived.BigQuiet
import Derived.Deep.QuietTactic
import Derived.Outline
namespace Go.Proofs.Ytlfnhfipnjgifaa.fnUses
open Go.ChangeShapes Go.WideShapes Go.ChangeAt Go.RowKit
open Go.ChangeMaps (open_string shut_string)
set_option linter.unusedVariables false
set_option linter.unusedSimpArgs false

set_option maxHeartbeats 4000000 in
set_option maxRecDepth 20000 in
theorem walk (a0 : Option Addr) (len0 cap0 : Nat) (l0 : Nat) (w : World) (h0 : Bytes w w.heap.size a0 len0 ∧ len0 ≤ maxLen) :
    Calls Try.prog 9 #[.slice a0 len0 cap0] w fun e w' => e = .returned (.bool true) ∧ Below w.heap.size w w' := by
  obtain ⟨hb, hm⟩ := h0
  by_cases hbig : 1048576 < len0
  · go_enter Try.func9, Try.ntmps9
    go_wp2_with fail
    refine (big_c _ _ _ _ hm).mono ?_
    rintro e w' ⟨rfl, rfl⟩
    rw [decide_eq_true hbig]
    go_wp2
    go_ret
    exact ⟨rfl, Below.refl _ _⟩
  have hle : len0 ≤ 1048576 := by omega
  have HB := Lib.hid hb
  clear hb
  go_enter Try.func9, Try.ntmps9
  go_wp2_with fail
  refine (big_c _ _ _ _ hm).mono ?_
  rintro e w' ⟨rfl, rfl⟩
  rw [decide_eq_false hbig]
  clear hbig hm
  have B0 := Below.refl w.heap.size w
  have hle0 := hle
  go_wp2_with fail
  refine (DrawUsesOf_c a0 len0 cap0 _ HB.out hle).mono ?_
  rintro e w1 ⟨A_t, n_t, c_t, l_t, x_page, rfl, D_t, m_page, hb⟩
  have B1 := B0.trans (hb.mono B0.size)
  clear B0
  have HB1 := Lib.hid (HB.out.grow hb)
  clear HB
  clear hb
  have hn_t := D_t.1
  have R_t := Lib.hid D_t.2
  clear D_t
  have M_page := Lib.hid m_page
  clear m_page
  go_wp2_with fail
  refine (iUsesOf_c A_t n_t c_t l_t x_page _ R_t.out (by omega)).mono ?_
  rintro e w2 ⟨A_U, c_U, rfl, own, hb⟩
  have Q := Lib.hid (Rd.of_own own)
  clear own
  have B2 := B1.trans (hb.mono B1.size)
  clear B1
  have r2_0 := Lib.hid (R_t.out.below hb)
  clear R_t
  have HB2 := Lib.hid (HB1.out.grow hb)
  clear HB1
  clear hb
  have R_U := Q
  clear Q
  have hlt : l_t.length = n_t := slots_len r2_0.out
  have hU : (usesOf l_t x_page).length ≤ 6 := by have := usesTo_le l_t x_page l_t.length; unfold usesOf; omega
  go_wp2_with fail
  refine (sUsesOf_c A_t n_t c_t l_t x_page _ r2_0.out (by omega)).mono ?_
  rintro e w3 ⟨A_V, c_V, rfl, own, hb⟩
  have Q := Lib.hid (Rd.of_own own)
  clear own
  have B3 := B2.trans (hb.mono B2.size)
  clear B2
  have r3_0 := Lib.hid (r2_0.out.below hb)
  clear r2_0
  have r3_1 := Lib.hid (R_U.out.below hb)
  clear R_U
  have HB3 := Lib.hid (HB2.out.grow hb)
  clear HB2
  clear hb
  have R_V := Q
  clear Q
  go_wp2_with fail
  refine (sameInts_t A_U A_V (usesOf l_t x_page).length c_U c_V (usesOf l_t x_page) _ r3_1.out R_V.out (by omega)).mono ?_
  rintro e w4 ⟨rfl, hb⟩
  have B4 := B3.trans (hb.mono B3.size)
  clear B3
  have r4_0 := Lib.hid (r3_0.out.below hb)
  clear r3_0
  have r4_1 := Lib.hid (r3_1.out.below hb)
  clear r3_1
  have r4_2 := Lib.hid (R_V.out.below hb)
  clear R_V
  have HB4 := Lib.hid (HB3.out.grow hb)
  clear HB3
  clear hb
  have HLT := Lib.hid hlt
  clear hlt
  go_wp2
  have RT := r4_0
  go_loopw [6, 7] (fun n q wr => ∃ j : Nat, j ≤ 11 ∧ q = .int .i64 ((j : Int) - 2) ∧ n = .int .i64 (usesSum l_t j) ∧ Hid (Rd wr 2 A_t n_t (slotCells l_t)) ∧ Hid (Bytes wr wr.heap.size a0 len0) ∧ Hid (Below w.heap.size w wr)) (fun _ q _ => (9 - intOf q).toNat)
  case atStart => exact ⟨0, by omega, rfl, rfl, RT, HB4, Lib.hid B4⟩
  case round =>
    obtain ⟨j, hj, rfl, rfl, RQ, HQ, BQ⟩ := hrel
    clear RT HB4 B4
    have hle := usesSum_le l_t j
    have hle2 : j * l_t.length ≤ 11 * 6 := Nat.mul_le_mul hj (by rw [HLT.out]; exact hn_t)
    by_cases hlt : j < 11
    · have e : usesSum l_t (j + 1) = usesSum l_t j + (if (j : Int) - 2 = -1 then 0 else (usesOf l_t ((j : Int) - 2)).length) := rfl
      have E := Lib.hid e
      clear e
      have hu : (usesOf l_t ((j : Int) - 2)).length ≤ 6 := by have := usesTo_le l_t ((j : Int) - 2) l_t.length; have := HLT.out; unfold usesOf; omega
      by_cases h1 : j = 1
      · subst h1
        go_wp2
        go_roundw
        case rel => exact ⟨2, by omega, by go_num, by rw [E.out]; simp, RQ, HQ, BQ⟩
        case measure => simp [intOf]
      · have hne : (((j : Int) - 2) != -1) = true := by simp; omega
        have hne2 : (((j : Int) - 2) == -1) = false := by simp; omega
        go_wp2_with fail
        refine (iUsesOf_c A_t n_t c_t l_t ((j : Int) - 2) _ RQ.out (by omega)).mono ?_
        rintro e w2 ⟨A2, c2, rfl, own2, hb2⟩
        have RQ2 := Lib.hid (RQ.out.below hb2)
        have HQ2 := Lib.hid (HQ.out.grow hb2)
        have BQ2 := Lib.hid (BQ.out.trans (hb2.mono BQ.out.size))
        clear own2 hb2 RQ HQ BQ
        go_wp2
        go_roundw
        case rel => exact ⟨j + 1, by omega, by go_num, by rw [E.out, if_neg (by omega)]; go_num, RQ2, HQ2, BQ2⟩
        case measure => simp [intOf]; omega
    · obtain rfl : j = 11 := by omega
      obtain ⟨wo, hwo⟩ : ∃ x, x = wr := ⟨_, rfl⟩
      subst hwo
      have BO := BQ.out
      clear BQ
      go_wp2_with fail
      refine (DrawMapped_c a0 len0 cap0 _ HQ.out hle0).mono ?_
      rintro e w51 ⟨A_m, n_m, c_m, l_m, rfl, D_m, hb⟩
      have B51 := BO.trans (hb.mono BO.size)
      clear BO
      have r51_0 := Lib.hid (RQ.out.below hb)
      clear RQ
      have HB51 := Lib.hid (HQ.out.grow hb)
      clear HQ
      clear hb
      have hn_m := D_m.1
      have R_m := Lib.hid D_m.2
      clear D_m
      go_wp2_with fail
      refine (DrawSameTable_c a0 len0 cap0 _ HB51.out hle0).mono ?_
      rintro e w52 ⟨A_a, n_a, c_a, l_a, A_b, n_b, c_b, l_b, rfl, D_a, D_b, hb⟩
      have B52 := B51.trans (hb.mono B51.size)
      clear B51
      have r52_0 := Lib.hid (r51_0.out.below hb)
      clear r51_0
      have r52_1 := Lib.hid (R_m.out.below hb)
      clear R_m
      clear hb
      clear HB51
      have hn_a := D_a.1
      have R_a := Lib.hid D_a.2
      clear D_a
      have hn_b := D_b.1
      have R_b := Lib.hid D_b.2
      clear D_b
      go_wp2
      go_loopw [11, 12] (fun f q wr => ∃ k : Nat, k ≤ n_t ∧ q = .int .i64 k ∧ f = .bool ((l_t.take k).any farS) ∧ Hid (Rd wr 2 A_t n_t (slotCells l_t)) ∧ Hid (Rd wr 2 A_m n_m (slotCells l_m)) ∧ Hid (Rd wr 2 A_a n_a (slotCells l_a)) ∧ Hid (Rd wr 2 A_b n_b (slotCells l_b)) ∧ Hid (Below w.heap.size w wr)) (fun _ q _ => n_t - (intOf q).toNat)
      case atStart => exact ⟨0, by omega, rfl, by simp, r52_0, r52_1, R_a, R_b, Lib.hid B52⟩
      case round =>
        obtain ⟨k, hk, rfl, rfl, RT, RM, RA, RB, BW⟩ := hrel
        clear r52_0 r52_1 R_a R_b B52
        by_cases hlt : k < n_t
        · obtain ⟨bt, ot, pp, rr, rfl, hlk, c0, c1⟩ := RT.out.slot k hlt
          have E := Lib.hid (far_succ l_t k (pp, rr) hlk)
          clear hlk
          have f0 : ∀ x : Ext wr, x.w.cell? _ = _ := fun x => (x.cell (World.block_lt_of_cell? _ _ c0)).trans c0
          obtain ⟨fb, hf⟩ : ∃ b, (l_t.take k).any farS = b := ⟨_, rfl⟩
          rw [hf] at E ⊢
          clear hf
          by_cases h1 : pp < -2 <;> by_cases h2 : 8 < pp <;> cases fb
          all_goals (first | (exfalso; omega) | skip)
          all_goals
            have E2 : Hid ((l_t.take (k + 1)).any farS = _) := E
            simp only [farS, h1, h2, decide_true, decide_false, Bool.or_true, Bool.or_false, Bool.true_or, Bool.false_or] at E2
            clear f0 E
            go_wp2
            go_roundw
            case rel => exact ⟨k + 1, by omega, by go_num, by rw [E2.out], RT, RM, RA, RB, BW⟩
            case measure => simp [intOf]; omega
        · obtain rfl : n_t = k := by omega
          obtain ⟨wq, hwo⟩ : ∃ x, x = wr := ⟨_, rfl⟩
          subst hwo
          have BP := BW.out
          clear BW
          rw [List.take_of_length_le (Nat.le_of_eq HLT.out)]
          obtain ⟨fb, hf⟩ : ∃ b, l_t.any farS = b := ⟨_, rfl⟩
          rw [hf]
          have HF := Lib.hid hf
          clear hf
          obtain ⟨sv, hsv⟩ : ∃ v : Bool, decide (l_a = l_b) = v := ⟨_, rfl⟩
          have HSV := Lib.hid hsv
          clear hsv
          cases fb
          · skip
            have hq : ((usesSum l_t 11 : Int) == (mapped l_t : Int)) = true := by rw [uses_law l_t HF.out]; simp
            have hm := mapped_le l_t
            have hlen := HLT.out
            go_wp2_with fail
            refine (iMapped_c A_t n_t c_t l_t _ RT.out (by omega)).mono ?_
            rintro e w71 ⟨rfl, hb⟩
            have B71 := BP.trans (hb.mono BP.size)
            clear BP
            have r71_0 := Lib.hid (RT.out.below hb)
            clear RT
            have r71_1 := Lib.hid (RM.out.below hb)
            clear RM
            have r71_2 := Lib.hid (RA.out.below hb)
            clear RA
            have r71_3 := Lib.hid (RB.out.below hb)
            clear RB
            clear hb
            clear hlen hm
            have hmm : ((mapped l_m : Int) == (mapped l_m : Int)) = true := by simp
            have hss : (sv == sv) = true := by simp
            go_wp2_with fail
            refine (iMapped_c A_m n_m c_m l_m _ r71_1.out (by omega)).mono ?_
            rintro e w72 ⟨rfl, hb⟩
            have B72 := B71.trans (hb.mono B71.size)
            clear B71
            have r72_0 := Lib.hid (r71_0.out.below hb)
            clear r71_0
            have r72_1 := Lib.hid (r71_1.out.below hb)
            clear r71_1
            have r72_2 := Lib.hid (r71_2.out.below hb)
            clear r71_2
            have r72_3 := Lib.hid (r71_3.out.below hb)
            clear r71_3
            clear hb
            go_wp2_with fail
            refine (sMapped_c A_m n_m c_m l_m _ r72_1.out (by omega)).mono ?_
            rintro e w' ⟨rfl, rfl⟩
            go_wp2_with fail
            refine (iSameTable_c A_a A_b n_a n_b c_a c_b l_a l_b _ r72_2.out r72_3.out (by omega) (by omega)).mono ?_
            rintro e w73 ⟨rfl, hb⟩
            have B73 := B72.trans (hb.mono B72.size)
            clear B72
            have r73_0 := Lib.hid (r72_0.out.below hb)
            clear r72_0
            have r73_1 := Lib.hid (r72_1.out.below hb)
            clear r72_1
            have r73_2 := Lib.hid (r72_2.out.below hb)
            clear r72_2
            have r73_3 := Lib.hid (r72_3.out.below hb)
            clear r72_3
            clear hb
            rw [HSV.out]
            go_wp2_with fail
            refine (sameSlots_c A_a A_b n_a n_b c_a c_b l_a l_b _ r73_2.out r73_3.out (by omega) (by omega)).mono ?_
            rintro e w74 ⟨rfl, hb⟩
            have B74 := B73.trans (hb.mono B73.size)
            clear B73
            have r74_0 := Lib.hid (r73_0.out.below hb)
            clear r73_0
            have r74_1 := Lib.hid (r73_1.out.below hb)
            clear r73_1
            have r74_2 := Lib.hid (r73_2.out.below hb)
            clear r73_2
            have r74_3 := Lib.hid (r73_3.out.below hb)
            clear r73_3
            clear hb
            rw [HSV.out]
            have O := Rd.of_own (World.ownsRow_lit (base := w74.heap.size) (e := 41) (size := 2) w74 #[.int .i64 1, .int .i64 0, .int .i64 2, .int .i64 0, .int .i64 1, .int .i64 0] 3 (Nat.le_refl _) (by unfold maxLen; omega) (by simp))
            have L_e : Hid (Rd (w74.alloc (.cells #[.int .i64 1, .int .i64 0, .int .i64 2, .int .i64 0, .int .i64 1, .int .i64 0] 41)) 2 (some ⟨w74.heap.size, 0, none⟩) 3 (slotCells [(1, 0), (2, 0), (1, 0)])) := Lib.hid O
            clear O
            have hA := (Below.refl (w74).heap.size (w74)).alloc (Nat.le_refl _) (.cells #[.int .i64 1, .int .i64 0, .int .i64 2, .int .i64 0, .int .i64 1, .int .i64 0] 41)
            have B75 := B74.trans (hA.mono B74.size)
            clear B74
            have r75_0 := Lib.hid (r74_0.out.below hA)
            clear r74_0
            have r75_1 := Lib.hid (r74_1.out.below hA)
            clear r74_1
            have r75_2 := Lib.hid (r74_2.out.below hA)
            clear r74_2
            have r75_3 := Lib.hid (r74_3.out.below hA)
            clear r74_3
            clear hA
            have HC : Calls Try.prog 46 #[.slice (some ⟨w74.heap.size, 0, none⟩) 3 3, .int .i64 1] (w74.alloc (.cells #[.int .i64 1, .int .i64 0, .int .i64 2, .int .i64 0, .int .i64 1, .int .i64 0] 41)) (Made (w74.alloc (.cells #[.int .i64 1, .int .i64 0, .int .i64 2, .int .i64 0, .int .i64 1, .int .i64 0] 41)) 3 1 2 (intCells [0, 2])) := by
              have h := iUsesOf_c (some ⟨w74.heap.size, 0, none⟩) 3 3 [(1, 0), (2, 0), (1, 0)] 1 _ L_e.out (by omega)
              have hu : usesOf [(1, 0), (2, 0), (1, 0)] 1 = [0, 2] := by decide
              rw [hu] at h
              exact h
            go_wp2_with fail
            refine (HC).mono ?_
            rintro e w75 ⟨A_Z, c_Z, rfl, own, hb⟩
            have Q := Lib.hid (Rd.of_own own)
            clear own
            have B76 := B75.trans (hb.mono B75.size)
            clear B75
            have r76_0 := Lib.hid (r75_0.out.below hb)
            clear r75_0
            have r76_1 := Lib.hid (r75_1.out.below hb)
            clear r75_1
            have r76_2 := Lib.hid (r75_2.out.below hb)
            clear r75_2
            have r76_3 := Lib.hid (r75_3.out.below hb)
            clear r75_3
            have r76_4 := Lib.hid (L_e.out.below hb)
            clear L_e
            clear hb
            have R_Z := Q
            clear Q
            clear HC
            have O := Rd.of_own (World.ownsRow_lit (base := w75.heap.size) (e := 3) (size := 1) w75 #[.int .i64 0, .int .i64 2] 2 (Nat.le_refl _) (by unfold maxLen; omega) (by simp))
            have L_f : Hid (Rd (w75.alloc (.cells #[.int .i64 0, .int .i64 2] 3)) 1 (some ⟨w75.heap.size, 0, none⟩) 2 (intCells [0, 2])) := Lib.hid O
            clear O
            have hA := (Below.refl (w75).heap.size (w75)).alloc (Nat.le_refl _) (.cells #[.int .i64 0, .int .i64 2] 3)
            have B77 := B76.trans (hA.mono B76.size)
            clear B76
            have r77_0 := Lib.hid (r76_0.out.below hA)
            clear r76_0
            have r77_1 := Lib.hid (r76_1.out.below hA)
            clear r76_1
            have r77_2 := Lib.hid (r76_2.out.below hA)
            clear r76_2
            have r77_3 := Lib.hid (r76_3.out.below hA)
            clear r76_3
            have r77_4 := Lib.hid (r76_4.out.below hA)
            clear r76_4
            have r77_5 := Lib.hid (R_Z.out.below hA)
            clear R_Z
            clear hA
            go_wp2_with fail
            refine (sameInts_t A_Z (some ⟨w75.heap.size, 0, none⟩) 2 c_Z 2 [0, 2] _ r77_5.out L_f.out (by omega)).mono ?_
            rintro e w76 ⟨rfl, hb⟩
            have B78 := B77.trans (hb.mono B77.size)
            clear B77
            have r78_0 := Lib.hid (r77_0.out.below hb)
            clear r77_0
            have r78_1 := Lib.hid (r77_1.out.below hb)
            clear r77_1
            have r78_2 := Lib.hid (r77_2.out.below hb)
            clear r77_2
            have r78_3 := Lib.hid (r77_3.out.below hb)
            clear r77_3
            have r78_4 := Lib.hid (r77_4.out.below hb)
            clear r77_4
            have r78_5 := Lib.hid (r77_5.out.below hb)
            clear r77_5
            have r78_6 := Lib.hid (L_f.out.below hb)
            clear L_f
            clear hb
            go_wp2
            go_ret
            exact ⟨rfl, B78⟩
          · skip
            have hmm : ((mapped l_m : Int) == (mapped l_m : Int)) = true := by simp
            have hss : (sv == sv) = true := by simp
            go_wp2_with fail
            refine (iMapped_c A_m n_m c_m l_m _ RM.out (by omega)).mono ?_
            rintro e w71 ⟨rfl, hb⟩
            have B71 := BP.trans (hb.mono BP.size)
            clear BP
            have r71_0 := Lib.hid (RT.out.below hb)
            clear RT
            have r71_1 := Lib.hid (RM.out.below hb)
            clear RM
            have r71_2 := Lib.hid (RA.out.below hb)
            clear RA
            have r71_3 := Lib.hid (RB.out.below hb)
            clear RB
            clear hb
            go_wp2_with fail
            refine (sMapped_c A_m n_m c_m l_m _ r71_1.out (by omega)).mono ?_
            rintro e w' ⟨rfl, rfl⟩
            go_wp2_with fail
            refine (iSameTable_c A_a A_b n_a n_b c_a c_b l_a l_b _ r71_2.out r71_3.out (by omega) (by omega)).mono ?_
            rintro e w72 ⟨rfl, hb⟩
            have B72 := B71.trans (hb.mono B71.size)
            clear B71
            have r72_0 := Lib.hid (r71_0.out.below hb)
            clear r71_0
            have r72_1 := Lib.hid (r71_1.out.below hb)
            clear r71_1
            have r72_2 := Lib.hid (r71_2.out.below hb)
            clear r71_2
            have r72_3 := Lib.hid (r71_3.out.below hb)
            clear r71_3
            clear hb
            rw [HSV.out]
            go_wp2_with fail
            refine (sameSlots_c A_a A_b n_a n_b c_a c_b l_a l_b _ r72_2.out r72_3.out (by omega) (by omega)).mono ?_
            rintro e w73 ⟨rfl, hb⟩
            have B73 := B72.trans (hb.mono B72.size)
            clear B72
            have r73_0 := Lib.hid (r72_0.out.below hb)
            clear r72_0
            have r73_1 := Lib.hid (r72_1.out.below hb)
            clear r72_1
            have r73_2 := Lib.hid (r72_2.out.below hb)
            clear r72_2
            have r73_3 := Lib.hid (r72_3.out.below hb)
            clear r72_3
            clear hb
            rw [HSV.out]
            have O := Rd.of_own (World.ownsRow_lit (base := w73.heap.size) (e := 41) (size := 2) w73 #[.int .i64 1, .int .i64 0, .int .i64 2, .int .i64 0, .int .i64 1, .int .i64 0] 3 (Nat.le_refl _) (by unfold maxLen; omega) (by simp))
            have L_e : Hid (Rd (w73.alloc (.cells #[.int .i64 1, .int .i64 0, .int .i64 2, .int .i64 0, .int .i64 1, .int .i64 0] 41)) 2 (some ⟨w73.heap.size, 0, none⟩) 3 (slotCells [(1, 0), (2, 0), (1, 0)])) := Lib.hid O
            clear O
            have hA := (Below.refl (w73).heap.size (w73)).alloc (Nat.le_refl _) (.cells #[.int .i64 1, .int .i64 0, .int .i64 2, .int .i64 0, .int .i64 1, .int .i64 0] 41)
            have B74 := B73.trans (hA.mono B73.size)
            clear B73
            have r74_0 := Lib.hid (r73_0.out.below hA)
            clear r73_0
            have r74_1 := Lib.hid (r73_1.out.below hA)
            clear r73_1
            have r74_2 := Lib.hid (r73_2.out.below hA)
            clear r73_2
            have r74_3 := Lib.hid (r73_3.out.below hA)
            clear r73_3
            clear hA
            have HC : Calls Try.prog 46 #[.slice (some ⟨w73.heap.size, 0, none⟩) 3 3, .int .i64 1] (w73.alloc (.cells #[.int .i64 1, .int .i64 0, .int .i64 2, .int .i64 0, .int .i64 1, .int .i64 0] 41)) (Made (w73.alloc (.cells #[.int .i64 1, .int .i64 0, .int .i64 2, .int .i64 0, .int .i64 1, .int .i64 0] 41)) 3 1 2 (intCells [0, 2])) := by
              have h := iUsesOf_c (some ⟨w73.heap.size, 0, none⟩) 3 3 [(1, 0), (2, 0), (1, 0)] 1 _ L_e.out (by omega)
              have hu : usesOf [(1, 0), (2, 0), (1, 0)] 1 = [0, 2] := by decide
              rw [hu] at h
              exact h
            go_wp2_with fail
            refine (HC).mono ?_
            rintro e w74 ⟨A_Z, c_Z, rfl, own, hb⟩
            have Q := Lib.hid (Rd.of_own own)
            clear own
            have B75 := B74.trans (hb.mono B74.size)
            clear B74
            have r75_0 := Lib.hid (r74_0.out.below hb)
            clear r74_0
            have r75_1 := Lib.hid (r74_1.out.below hb)
            clear r74_1
            have r75_2 := Lib.hid (r74_2.out.below hb)
            clear r74_2
            have r75_3 := Lib.hid (r74_3.out.below hb)
            clear r74_3
            have r75_4 := Lib.hid (L_e.out.below hb)
            clear L_e
            clear hb
            have R_Z := Q
            clear Q
            clear HC
            have O := Rd.of_own (World.ownsRow_lit (base := w74.heap.size) (e := 3) (size := 1) w74 #[.int .i64 0, .int .i64 2] 2 (Nat.le_refl _) (by unfold maxLen; omega) (by simp))
            have L_f : Hid (Rd (w74.alloc (.cells #[.int .i64 0, .int .i64 2] 3)) 1 (some ⟨w74.heap.size, 0, none⟩) 2 (intCells [0, 2])) := Lib.hid O
            clear O
            have hA := (Below.refl (w74).heap.size (w74)).alloc (Nat.le_refl _) (.cells #[.int .i64 0, .int .i64 2] 3)
            have B76 := B75.trans (hA.mono B75.size)
            clear B75
            have r76_0 := Lib.hid (r75_0.out.below hA)
            clear r75_0
            have r76_1 := Lib.hid (r75_1.out.below hA)
            clear r75_1
            have r76_2 := Lib.hid (r75_2.out.below hA)
            clear r75_2
            have r76_3 := Lib.hid (r75_3.out.below hA)
            clear r75_3
            have r76_4 := Lib.hid (r75_4.out.below hA)
            clear r75_4
            have r76_5 := Lib.hid (R_Z.out.below hA)
            clear R_Z
            clear hA
            go_wp2_with fail
            refine (sameInts_t A_Z (some ⟨w74.heap.size, 0, none⟩) 2 c_Z 2 [0, 2] _ r76_5.out L_f.out (by omega)).mono ?_
            rintro e w75 ⟨rfl, hb⟩
            have B77 := B76.trans (hb.mono B76.size)
            clear B76
            have r77_0 := Lib.hid (r76_0.out.below hb)
            clear r76_0
            have r77_1 := Lib.hid (r76_1.out.below hb)
            clear r76_1
            have r77_2 := Lib.hid (r76_2.out.below hb)
            clear r76_2
            have r77_3 := Lib.hid (r76_3.out.below hb)
            clear r76_3
            have r77_4 := Lib.hid (r76_4.out.below hb)
            clear r76_4
            have r77_5 := Lib.hid (r76_5.out.below hb)
            clear r76_5
            have r77_6 := Lib.hid (L_f.out.below hb)
            clear L_f
            clear hb
            go_wp2
            go_ret
            exact ⟨rfl, B77⟩

/-! ### The row's step -/
theorem own : ownKnob Try.prog.godebug = none := by kernel_rfl
theorem laidOut : laidOutB Try.prog = true := by kernel_rfl
set_option maxRecDepth 100000 in
theorem lifted (os : Os) (started : os.Started) (H : Type) (enc : TypeId × Value → H) :
    ReturnsInHanded {} Try.checked os 9 .any (Rows.fnUsesSpec.pre6 enc Try.prog Try.f9 Rows.fnUsesRow.domain false) (Rows.fnUsesSpec.post enc Try.prog Try.f9 false true false false) := by
  refine returnsInHanded_of_change (C := Try.checked) own started (by kernel_rfl) Try.func9
    (ChangeSpec.witness6 (enc := enc) (C := Try.checked) false ⟨#[], #[.slice none 0 0], []⟩ 8 (by kernel_rfl) (by kernel_rfl) (by kernel_rfl) (by kernel_rfl)) ?_
  intro W base args ds gs before hval0 hW hcnd _
  have hval : ∀ (j : Nat) t v, Try.f9.params[j]? = some t → args[j]? = some v → Value.okWide Try.prog W .any base t v := hval0
  have hW' := hW
  obtain ⟨p, q, hA0, hV, rfl, hfz, hnd⟩ := hW
  have hA : DataW.TrodAll enc Try.prog W 0 (fun _ => true) true Try.f9.params.toList args.toList ds p := hA0
  rw [Try.params9] at hA hval
  obtain ⟨v0, vs0, d0, ds0, p0, q0, hargs, rfl, rfl, h0, r0⟩ := trodAll_cons hA
  obtain ⟨rfl, rfl, rfl⟩ := trodAll_nil r0
  obtain rfl : args = #[v0] := by cases args; simp_all
  obtain ⟨rfl, rfl⟩ := trodVars_none hV
  have k0 := h0
  have lt0 : ∀ x ∈ p0, x.block < W.heap.size := by obtain ⟨m, hm⟩ := k0; exact DataW.trod_lt m _ _ _ hm
  obtain ⟨a0, len0, cap0, rfl⟩ := okWide_slice Try.underlying53 (hval 0 53 v0 rfl rfl)
  obtain ⟨l0, w0⟩ := opn_bytes k0
  clear hA0 hval0
  refine (walk a0 len0 cap0 l0 W w0).mono fun e W' ⟨he, bel⟩ => ?_
  subst he
  exact ⟨_, rfl, _, _, _, [], _, [], hW', trodAll_mk1 (shut_bool Try.underlying4 _), (trodAll_cons_mk (Below.trod laidOut (by kernel_rfl) (of_decide_eq_true (by kernel_rfl)) k0 bel lt0) trodAll_mk0), rfl, bel.frame _, fun h => by cases h⟩

theorem over : Rows.fnUsesRow.holds Try.pinned (OpenSpec.ofChange Rows.fnUsesSpec) :=
  OpenClaim.holds_of_wide 9 Try.f9 rfl rfl rfl rfl rfl rfl rfl ⟨rfl, rfl, rfl, rfl, rfl⟩ rfl rfl rfl rfl rfl (by kernel_rfl) Try.func9 (by kernel_rfl)
    (of_decide_eq_true (by kernel_rfl)) (by unfold Func.isWrapper; first | (rw [if_pos (by decide +kernel)]; kernel_rfl) | (rw [if_neg (by decide +kernel)]; exact ⟨rfl, rfl⟩))
    (fun os started H enc _ => lifted os started H enc)

/-- The statement. -/
theorem proved : Rows.FnUsesSaid := over
#print axioms proved
end Go.Proofs.Ytlfnhfipnjgifaa.fnUses
