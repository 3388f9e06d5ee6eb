/- The law FnComposed returns true for every input: two tables as one grant no more than either. No condition. -/
import Derived.Test.YtlfnhfipnjgifaaRows
import Derived.Test.YtlfnhfipnjgifaaOpenB
import Derived.Test.YtlfnhfipnjgifaaDrawU
import Derived.Test.YtlfnhfipnjgifaaCompose
import Derived.Test.YtlfnhfipnjgifaaLoops2
import Derived.Test.YtlfnhfipnjgifaaSameS
import Derived.Test.YtlfnhfipnjgifaaLawT
import Derived.WalkKit
import Derived.ProofKit
import Derived.OpenShut
import Derived.ShutString
import Derived.ChangeOld
import Derived.Below
import Derived.Handy
import Derived.Carry
import Derived.Lib.SmallJoins
import Derived.WalkLawsBesides
import Derived.WalkSpells
import Derived.BigQuiet
import Derived.Deep.QuietTactic
import Derived.Outline
import Derived.Deep.RegionWith
import Derived.Deep.RegionHeld3
import Derived.Deep.DeepCutAuto
namespace Go.Proofs.Ytlfnhfipnjgifaa.fnComposed
open Go.ChangeShapes Go.WideShapes Go.ChangeAt Go.RowKit
open Go.ChangeMaps (open_string shut_string)
set_option linter.unusedVariables false
set_option linter.unusedSimpArgs false

theorem iTableBelow_v {l r : List Sl} {v : Bool} (h : tableBelow l r = v) (A B : Option Addr) (n m c d : Nat) (w : World) (ha : Rd w 2 A n (slotCells l)) (hb : Rd w 2 B m (slotCells r)) (hn : n ≤ 1048576) (hm : m ≤ 1048576) :
    Calls Try.prog 57 #[.slice A n c, .slice B m d] w fun e w' => e = .returned (.bool v) ∧ Below w.heap.size w w' := h ▸ iTableBelow_c A B n m c d l r w ha hb hn hm
theorem sTableBelow_v {l r : List Sl} {v : Bool} (h : tableBelow l r = v) (A B : Option Addr) (n m c d : Nat) (w : World) (ha : Rd w 2 A n (slotCells l)) (hb : Rd w 2 B m (slotCells r)) (hn : n ≤ 1048576) (hm : m ≤ 1048576) :
    Calls Try.prog 92 #[.slice A n c, .slice B m d] w fun e w' => e = .returned (.bool v) ∧ Below w.heap.size w w' := h ▸ sTableBelow_c A B n m c d l r w ha hb hn hm
theorem composed_law {p r cp cr sp sr : Int} {o : List Sl} (hc : composeSlot (p, r) o = (cp, cr)) (hs : slotAt o p = (sp, sr)) (hne : ¬ (cp = -1 ∧ cr = 0)) : belowS (cp, cr) (sp, sr) = true ∧ enough r cr = true := by
  unfold composeSlot at hc
  simp only [hs] at hc
  split at hc
  · injection hc with h1 h2
    exact absurd ⟨h1.symm, h2.symm⟩ hne
  · rename_i hn
    injection hc with h1 h2
    subst h1 h2
    have hb : bothR r sr ≠ 0 := fun h => hn (.inr (.inr h))
    have := both_enough r sr hb
    exact ⟨by simp [belowS, this.2], this.1⟩
set_option maxHeartbeats 4000000 in
set_option maxRecDepth 20000 in
theorem walk (a0 : Option Addr) (len0 cap0 : Nat) (l0 : Nat) (w : World) (h0 : Bytes w w.heap.size a0 len0 ∧ len0 ≤ maxLen) :
    Calls Try.prog 14 #[.slice a0 len0 cap0] w fun e w' => e = .returned (.bool true) ∧ Below w.heap.size w w' := by
  obtain ⟨hb, hm⟩ := h0
  by_cases hbig : 1048576 < len0
  · go_enter Try.func14, Try.ntmps14
    go_wp2_with fail
    refine (big_c _ _ _ _ hm).mono ?_
    rintro e w' ⟨rfl, rfl⟩
    rw [decide_eq_true hbig]
    go_wp2
    go_ret
    exact ⟨rfl, Below.refl _ _⟩
  have hle : len0 ≤ 1048576 := by omega
  have HB := Lib.hid hb
  clear hb
  go_enter Try.func14, Try.ntmps14
  go_wp2_with fail
  refine (big_c _ _ _ _ hm).mono ?_
  rintro e w' ⟨rfl, rfl⟩
  rw [decide_eq_false hbig]
  clear hbig hm
  have B0 := Below.refl w.heap.size w
  go_wp2_with fail
  refine (DrawCompose_c a0 len0 cap0 _ HB.out hle).mono ?_
  rintro e w1 ⟨A_in, n_in, c_in, l_in, A_ou, n_ou, c_ou, l_ou, rfl, D_in, D_ou, hb⟩
  have B1 := B0.trans (hb.mono B0.size)
  clear B0
  have HB1 := Lib.hid (HB.out.grow hb)
  clear HB
  clear hb
  have hn_in := D_in.1
  have R_in := Lib.hid D_in.2
  clear D_in
  have hn_ou := D_ou.1
  have R_ou := Lib.hid D_ou.2
  clear D_ou
  go_wp2_with fail
  refine (iCompose_c A_in A_ou n_in n_ou c_in c_ou l_in l_ou _ R_in.out R_ou.out (by omega) (by omega)).mono ?_
  rintro e w2 ⟨A_C, c_C, rfl, own, hb⟩
  have Q := Lib.hid (Rd.of_own own)
  clear own
  have B2 := B1.trans (hb.mono B1.size)
  clear B1
  have r2_0 := Lib.hid (R_in.out.below hb)
  clear R_in
  have r2_1 := Lib.hid (R_ou.out.below hb)
  clear R_ou
  have HB2 := Lib.hid (HB1.out.grow hb)
  clear HB1
  clear hb
  have R_C := Q
  clear Q
  go_wp2_with fail
  refine (sCompose_c A_in A_ou n_in n_ou c_in c_ou l_in l_ou _ r2_0.out r2_1.out (by omega) (by omega)).mono ?_
  rintro e w3 ⟨A_D, c_D, rfl, own, hb⟩
  have Q := Lib.hid (Rd.of_own own)
  clear own
  have B3 := B2.trans (hb.mono B2.size)
  clear B2
  have r3_0 := Lib.hid (r2_0.out.below hb)
  clear r2_0
  have r3_1 := Lib.hid (r2_1.out.below hb)
  clear r2_1
  have r3_2 := Lib.hid (R_C.out.below hb)
  clear R_C
  have HB3 := Lib.hid (HB2.out.grow hb)
  clear HB2
  clear hb
  have R_D := Q
  clear Q
  go_wp2_with fail
  refine (sameSlots_t A_C A_D n_in c_C c_D (l_in.map fun s => composeSlot s l_ou) _ r3_2.out R_D.out (by omega)).mono ?_
  rintro e w4 ⟨rfl, hb⟩
  have B4 := B3.trans (hb.mono B3.size)
  clear B3
  have r4_0 := Lib.hid (r3_0.out.below hb)
  clear r3_0
  have r4_1 := Lib.hid (r3_1.out.below hb)
  clear r3_1
  have r4_2 := Lib.hid (r3_2.out.below hb)
  clear r3_2
  have r4_3 := Lib.hid (R_D.out.below hb)
  clear R_D
  have HB4 := Lib.hid (HB3.out.grow hb)
  clear HB3
  clear hb
  go_wp2
  go_loopw [6] (fun q wr => ∃ k : Nat, k ≤ n_in ∧ q = .int .i64 k ∧ Hid (Rd wr 2 A_in n_in (slotCells l_in)) ∧ Hid (Rd wr 2 A_ou n_ou (slotCells l_ou)) ∧ Hid (Rd wr 2 A_C n_in (slotCells (l_in.map fun s => composeSlot s l_ou))) ∧ Hid (Bytes wr wr.heap.size a0 len0) ∧ Hid (Below w.heap.size w wr)) (fun q _ => n_in - (intOf q).toNat)
  case atStart => exact ⟨0, by omega, rfl, r4_0, r4_1, r4_2, HB4, Lib.hid B4⟩
  case round =>
    obtain ⟨k, hk, rfl, RI, RO, RC, HQ, BW⟩ := hrel
    clear r4_0 r4_1 r4_2 HB4 B4
    by_cases hlt : k < n_in
    · obtain ⟨bi, oi, ip, ir, rfl, hli, ca0, ca1⟩ := RI.out.slot k hlt
      obtain ⟨bc, oc, cp, cr, rfl, hlc, cb0, cb1⟩ := RC.out.slot k hlt
      have hcs : composeSlot (ip, ir) l_ou = (cp, cr) := by rw [List.getElem?_map, hli] at hlc; simpa using hlc
      obtain ⟨⟨sp, sr⟩, hs⟩ : ∃ y, slotAt l_ou ip = y := ⟨_, rfl⟩
      have HLW := Lib.hid (composed_law hcs hs)
      have HS := Lib.hid hs
      clear hcs hs hli hlc
      have hBw := BW.out
      clear BW
      by_cases he : cp = -1 ∧ cr = 0
      · skip
        obtain ⟨rfl, rfl⟩ := he
        have xca0 : ∀ x : Ext wr, x.w.cell? _ = _ := fun x => (x.cell (World.block_lt_of_cell? _ _ ca0)).trans ca0
        have xca1 : ∀ x : Ext wr, x.w.cell? _ = _ := fun x => (x.cell (World.block_lt_of_cell? _ _ ca1)).trans ca1
        have xcb0 : ∀ x : Ext wr, x.w.cell? _ = _ := fun x => (x.cell (World.block_lt_of_cell? _ _ cb0)).trans cb0
        have xcb1 : ∀ x : Ext wr, x.w.cell? _ = _ := fun x => (x.cell (World.block_lt_of_cell? _ _ cb1)).trans cb1
        go_wp2_with fail
        refine wp_region_ext (by kernel_rfl) (by kernel_rfl) ?_
        repeat (go_big_quiet_step ((go_at_call 85; exact Ext.call _ (sNoSlot_c _))))
        refine wpQuiet_nil ?_
        intro w5 hw'
        have hb := Ext.out hw'
        clear hw' xca0 xca1 xcb0 xcb1
        have B5 := hBw.trans (hb.mono hBw.size)
        clear hBw
        have c5_0 := below_keep hb _ _ ca0
        clear ca0
        have c5_1 := below_keep hb _ _ ca1
        clear ca1
        have c5_2 := below_keep hb _ _ cb0
        clear cb0
        have c5_3 := below_keep hb _ _ cb1
        clear cb1
        have r5_0 := Lib.hid (RI.out.below hb)
        clear RI
        have r5_1 := Lib.hid (RO.out.below hb)
        clear RO
        have r5_2 := Lib.hid (RC.out.below hb)
        clear RC
        have HB5 := Lib.hid (HQ.out.grow hb)
        clear HQ
        clear hb
        have hBz := Lib.hid B5
        clear B5
        go_wp2
        go_roundw
        case rel => exact ⟨k + 1, by omega, by go_num, r5_0, r5_1, r5_2, HB5, hBz⟩
        case measure => simp [intOf]; omega
      · skip
        have hne2 : (cp == -1) = false ∨ ((cp == -1) = true ∧ (cr == 0) = false) := by
          by_cases h1 : cp = -1
          · exact .inr ⟨by simp [h1], by simp; exact fun h => he ⟨h1, h⟩⟩
          · exact .inl (by simp [h1])
        obtain ⟨hbe, hen⟩ := HLW.out he
        have HBE := Lib.hid hbe
        have HEN := Lib.hid hen
        clear hbe hen he HLW
        rcases hne2 with s1 | ⟨s1, s2⟩
        all_goals
          have xca0 : ∀ x : Ext wr, x.w.cell? _ = _ := fun x => (x.cell (World.block_lt_of_cell? _ _ ca0)).trans ca0
          have xca1 : ∀ x : Ext wr, x.w.cell? _ = _ := fun x => (x.cell (World.block_lt_of_cell? _ _ ca1)).trans ca1
          have xcb0 : ∀ x : Ext wr, x.w.cell? _ = _ := fun x => (x.cell (World.block_lt_of_cell? _ _ cb0)).trans cb0
          have xcb1 : ∀ x : Ext wr, x.w.cell? _ = _ := fun x => (x.cell (World.block_lt_of_cell? _ _ cb1)).trans cb1
          go_wp2_with fail
          refine wp_region_ext (by kernel_rfl) (by kernel_rfl) ?_
          repeat (go_big_quiet_step ((go_at_call 85; exact Ext.call _ (sNoSlot_c _))))
          refine wpQuiet_nil ?_
          intro w5 hw'
          have hb := Ext.out hw'
          clear hw' xca0 xca1 xcb0 xcb1
          have B5 := hBw.trans (hb.mono hBw.size)
          clear hBw
          have c5_0 := below_keep hb _ _ ca0
          clear ca0
          have c5_1 := below_keep hb _ _ ca1
          clear ca1
          have c5_2 := below_keep hb _ _ cb0
          clear cb0
          have c5_3 := below_keep hb _ _ cb1
          clear cb1
          have r5_0 := Lib.hid (RI.out.below hb)
          clear RI
          have r5_1 := Lib.hid (RO.out.below hb)
          clear RO
          have r5_2 := Lib.hid (RC.out.below hb)
          clear RC
          have HB5 := Lib.hid (HQ.out.grow hb)
          clear HQ
          clear hb
          go_wp2_with fail
          refine (sSlotAt_c A_ou n_ou c_ou l_ou ip _ r5_1.out (by omega) HS.out).mono ?_
          rintro e w6 ⟨rfl, hb⟩
          have B6 := B5.trans (hb.mono B5.size)
          clear B5
          have c6_0 := below_keep hb _ _ c5_0
          clear c5_0
          have c6_1 := below_keep hb _ _ c5_1
          clear c5_1
          have c6_2 := below_keep hb _ _ c5_2
          clear c5_2
          have c6_3 := below_keep hb _ _ c5_3
          clear c5_3
          have r6_0 := Lib.hid (r5_0.out.below hb)
          clear r5_0
          have r6_1 := Lib.hid (r5_1.out.below hb)
          clear r5_1
          have r6_2 := Lib.hid (r5_2.out.below hb)
          clear r5_2
          have HB6 := Lib.hid (HB5.out.grow hb)
          clear HB5
          clear hb
          have X := Box.new w6 sp sr
          have bx0_s := X.c0
          have bx1_s := X.c1
          clear X
          have hA := (Below.refl (w6).heap.size (w6)).alloc (Nat.le_refl _) (.cells #[.int .i64 sp, .int .i64 sr] 41)
          have B7 := B6.trans (hA.mono B6.size)
          clear B6
          have c7_0 := below_keep hA _ _ c6_0
          clear c6_0
          have c7_1 := below_keep hA _ _ c6_1
          clear c6_1
          have c7_2 := below_keep hA _ _ c6_2
          clear c6_2
          have c7_3 := below_keep hA _ _ c6_3
          clear c6_3
          have r7_0 := Lib.hid (r6_0.out.below hA)
          clear r6_0
          have r7_1 := Lib.hid (r6_1.out.below hA)
          clear r6_1
          have r7_2 := Lib.hid (r6_2.out.below hA)
          clear r6_2
          have HB7 := Lib.hid (HB6.out.grow hA)
          clear HB6
          clear hA
          have xc7_0 : ∀ x : Ext (w6.alloc (.cells #[.int .i64 sp, .int .i64 sr] 41)), x.w.cell? _ = _ := fun x => (x.cell (World.block_lt_of_cell? _ _ c7_0)).trans c7_0
          have xc7_1 : ∀ x : Ext (w6.alloc (.cells #[.int .i64 sp, .int .i64 sr] 41)), x.w.cell? _ = _ := fun x => (x.cell (World.block_lt_of_cell? _ _ c7_1)).trans c7_1
          have xc7_2 : ∀ x : Ext (w6.alloc (.cells #[.int .i64 sp, .int .i64 sr] 41)), x.w.cell? _ = _ := fun x => (x.cell (World.block_lt_of_cell? _ _ c7_2)).trans c7_2
          have xc7_3 : ∀ x : Ext (w6.alloc (.cells #[.int .i64 sp, .int .i64 sr] 41)), x.w.cell? _ = _ := fun x => (x.cell (World.block_lt_of_cell? _ _ c7_3)).trans c7_3
          have xbx0_s : ∀ x : Ext (w6.alloc (.cells #[.int .i64 sp, .int .i64 sr] 41)), x.w.cell? _ = _ := fun x => (x.cell (World.block_lt_of_cell? _ _ bx0_s)).trans bx0_s
          have xbx1_s : ∀ x : Ext (w6.alloc (.cells #[.int .i64 sp, .int .i64 sr] 41)), x.w.cell? _ = _ := fun x => (x.cell (World.block_lt_of_cell? _ _ bx1_s)).trans bx1_s
          go_wp2_with fail
          refine wp_region_ext (by kernel_rfl) (by kernel_rfl) ?_
          repeat (go_big_quiet_step ((first | (go_at_call 86; exact Ext.call _ (iBelow_v HBE.out _)) | (go_at_call 67; exact Ext.same _ (sEnough_v HEN.out _)))))
          refine wpQuiet_nil ?_
          intro w7 hw'
          have hb := Ext.out hw'
          clear hw' xc7_0 xc7_1 xc7_2 xc7_3 xbx0_s xbx1_s
          have B8 := B7.trans (hb.mono B7.size)
          clear B7
          have c8_0 := below_keep hb _ _ c7_0
          clear c7_0
          have c8_1 := below_keep hb _ _ c7_1
          clear c7_1
          have c8_2 := below_keep hb _ _ c7_2
          clear c7_2
          have c8_3 := below_keep hb _ _ c7_3
          clear c7_3
          have c8_4 := below_keep hb _ _ bx0_s
          clear bx0_s
          have c8_5 := below_keep hb _ _ bx1_s
          clear bx1_s
          have r8_0 := Lib.hid (r7_0.out.below hb)
          clear r7_0
          have r8_1 := Lib.hid (r7_1.out.below hb)
          clear r7_1
          have r8_2 := Lib.hid (r7_2.out.below hb)
          clear r7_2
          have HB8 := Lib.hid (HB7.out.grow hb)
          clear HB7
          clear hb
          have hBz := Lib.hid B8
          clear B8
          go_wp2
          go_roundw
          case rel => exact ⟨k + 1, by omega, by go_num, r8_0, r8_1, r8_2, HB8, hBz⟩
          case measure => simp [intOf]; omega
    · obtain rfl : n_in = k := by omega
      obtain ⟨wq, hwq⟩ : ∃ x, x = wr := ⟨_, rfl⟩
      subst hwq
      have BQ := BW.out
      clear BW RI RO RC
      go_wp2_with fail
      refine (DrawBelow_c a0 len0 cap0 _ HQ.out hle).mono ?_
      rintro e w81 ⟨p_a, r_a, p_b, r_b, rfl, hb⟩
      have B81 := BQ.trans (hb.mono BQ.size)
      clear BQ
      have HB81 := Lib.hid (HQ.out.grow hb)
      clear HQ
      clear hb
      have X := Box.new w81 p_a r_a
      have bx0_a := X.c0
      have bx1_a := X.c1
      clear X
      have hA := (Below.refl (w81).heap.size (w81)).alloc (Nat.le_refl _) (.cells #[.int .i64 p_a, .int .i64 r_a] 41)
      have B82 := B81.trans (hA.mono B81.size)
      clear B81
      have HB82 := Lib.hid (HB81.out.grow hA)
      clear HB81
      clear hA
      have X := Box.new (w81.alloc (.cells #[.int .i64 p_a, .int .i64 r_a] 41)) p_b r_b
      have bx0_b := X.c0
      have bx1_b := X.c1
      clear X
      have hA := (Below.refl ((w81.alloc (.cells #[.int .i64 p_a, .int .i64 r_a] 41))).heap.size ((w81.alloc (.cells #[.int .i64 p_a, .int .i64 r_a] 41)))).alloc (Nat.le_refl _) (.cells #[.int .i64 p_b, .int .i64 r_b] 41)
      have B83 := B82.trans (hA.mono B82.size)
      clear B82
      have c83_0 := below_keep hA _ _ bx0_a
      clear bx0_a
      have c83_1 := below_keep hA _ _ bx1_a
      clear bx1_a
      have HB83 := Lib.hid (HB82.out.grow hA)
      clear HB82
      clear hA
      simp only [World.size_alloc] at bx0_b bx1_b
      go_wp2_with fail
      refine (DrawTableBelow_c a0 len0 cap0 _ HB83.out hle).mono ?_
      rintro e w82 ⟨A_t, n_t, c_t, l_t, A_u, n_u, c_u, l_u, rfl, D_t, D_u, hb⟩
      have B84 := B83.trans (hb.mono B83.size)
      clear B83
      have c84_0 := below_keep hb _ _ c83_0
      clear c83_0
      have c84_1 := below_keep hb _ _ c83_1
      clear c83_1
      have c84_2 := below_keep hb _ _ bx0_b
      clear bx0_b
      have c84_3 := below_keep hb _ _ bx1_b
      clear bx1_b
      have HB84 := Lib.hid (HB83.out.grow hb)
      clear HB83
      clear hb
      have hn_t := D_t.1
      have R_t := Lib.hid D_t.2
      clear D_t
      have hn_u := D_u.1
      have R_u := Lib.hid D_u.2
      clear D_u
      go_wp2_with fail
      refine (DrawRestrict_c a0 len0 cap0 _ HB84.out hle).mono ?_
      rintro e w83 ⟨A_v, n_v, c_v, l_v, x_r, rfl, D_v, m_r, hb⟩
      have B85 := B84.trans (hb.mono B84.size)
      clear B84
      have c85_0 := below_keep hb _ _ c84_0
      clear c84_0
      have c85_1 := below_keep hb _ _ c84_1
      clear c84_1
      have c85_2 := below_keep hb _ _ c84_2
      clear c84_2
      have c85_3 := below_keep hb _ _ c84_3
      clear c84_3
      have r85_0 := Lib.hid (R_t.out.below hb)
      clear R_t
      have r85_1 := Lib.hid (R_u.out.below hb)
      clear R_u
      have HB85 := Lib.hid (HB84.out.grow hb)
      clear HB84
      clear hb
      have hn_v := D_v.1
      have R_v := Lib.hid D_v.2
      clear D_v
      have M_r := Lib.hid m_r
      clear m_r
      go_wp2_with fail
      refine (iRestrict_c A_v n_v c_v l_v x_r _ R_v.out (by omega)).mono ?_
      rintro e w84 ⟨A_w, c_w, rfl, own, hb⟩
      have Q := Lib.hid (Rd.of_own own)
      clear own
      have B86 := B85.trans (hb.mono B85.size)
      clear B85
      have c86_0 := below_keep hb _ _ c85_0
      clear c85_0
      have c86_1 := below_keep hb _ _ c85_1
      clear c85_1
      have c86_2 := below_keep hb _ _ c85_2
      clear c85_2
      have c86_3 := below_keep hb _ _ c85_3
      clear c85_3
      have r86_0 := Lib.hid (r85_0.out.below hb)
      clear r85_0
      have r86_1 := Lib.hid (r85_1.out.below hb)
      clear r85_1
      have r86_2 := Lib.hid (R_v.out.below hb)
      clear R_v
      have HB86 := Lib.hid (HB85.out.grow hb)
      clear HB85
      clear hb
      have R_w := Q
      clear Q
      go_wp2_with fail
      refine (DrawComposeSlot_c a0 len0 cap0 _ HB86.out hle).mono ?_
      rintro e w85 ⟨p_x, r_x, A_y, n_y, c_y, l_y, rfl, D_y, hb⟩
      have B87 := B86.trans (hb.mono B86.size)
      clear B86
      have c87_0 := below_keep hb _ _ c86_0
      clear c86_0
      have c87_1 := below_keep hb _ _ c86_1
      clear c86_1
      have c87_2 := below_keep hb _ _ c86_2
      clear c86_2
      have c87_3 := below_keep hb _ _ c86_3
      clear c86_3
      have r87_0 := Lib.hid (r86_0.out.below hb)
      clear r86_0
      have r87_1 := Lib.hid (r86_1.out.below hb)
      clear r86_1
      have r87_2 := Lib.hid (r86_2.out.below hb)
      clear r86_2
      have r87_3 := Lib.hid (R_w.out.below hb)
      clear R_w
      have HB87 := Lib.hid (HB86.out.grow hb)
      clear HB86
      clear hb
      have hn_y := D_y.1
      have R_y := Lib.hid D_y.2
      clear D_y
      clear HB87
      have X := Box.new w85 p_x r_x
      have bx0_x := X.c0
      have bx1_x := X.c1
      clear X
      have hA := (Below.refl (w85).heap.size (w85)).alloc (Nat.le_refl _) (.cells #[.int .i64 p_x, .int .i64 r_x] 41)
      have B88 := B87.trans (hA.mono B87.size)
      clear B87
      have c88_0 := below_keep hA _ _ c87_0
      clear c87_0
      have c88_1 := below_keep hA _ _ c87_1
      clear c87_1
      have c88_2 := below_keep hA _ _ c87_2
      clear c87_2
      have c88_3 := below_keep hA _ _ c87_3
      clear c87_3
      have r88_0 := Lib.hid (r87_0.out.below hA)
      clear r87_0
      have r88_1 := Lib.hid (r87_1.out.below hA)
      clear r87_1
      have r88_2 := Lib.hid (r87_2.out.below hA)
      clear r87_2
      have r88_3 := Lib.hid (r87_3.out.below hA)
      clear r87_3
      have r88_4 := Lib.hid (R_y.out.below hA)
      clear R_y
      clear hA
      have O := Rd.of_own (World.ownsRow_lit (base := (w85.alloc (.cells #[.int .i64 p_x, .int .i64 r_x] 41)).heap.size) (e := 41) (size := 2) (w85.alloc (.cells #[.int .i64 p_x, .int .i64 r_x] 41)) #[.int .i64 5, .int .i64 3, .int .i64 7, .int .i64 1] 2 (Nat.le_refl _) (by unfold maxLen; omega) (by simp))
      simp only [World.size_alloc] at O
      have L_f : Hid (Rd ((w85.alloc (.cells #[.int .i64 p_x, .int .i64 r_x] 41)).alloc (.cells #[.int .i64 5, .int .i64 3, .int .i64 7, .int .i64 1] 41)) 2 (some ⟨w85.heap.size + 1, 0, none⟩) 2 (slotCells [(5, 3), (7, 1)])) := Lib.hid O
      clear O
      have hA := (Below.refl ((w85.alloc (.cells #[.int .i64 p_x, .int .i64 r_x] 41))).heap.size ((w85.alloc (.cells #[.int .i64 p_x, .int .i64 r_x] 41)))).alloc (Nat.le_refl _) (.cells #[.int .i64 5, .int .i64 3, .int .i64 7, .int .i64 1] 41)
      have B89 := B88.trans (hA.mono B88.size)
      clear B88
      have c89_0 := below_keep hA _ _ c88_0
      clear c88_0
      have c89_1 := below_keep hA _ _ c88_1
      clear c88_1
      have c89_2 := below_keep hA _ _ c88_2
      clear c88_2
      have c89_3 := below_keep hA _ _ c88_3
      clear c88_3
      have c89_4 := below_keep hA _ _ bx0_x
      clear bx0_x
      have c89_5 := below_keep hA _ _ bx1_x
      clear bx1_x
      have r89_0 := Lib.hid (r88_0.out.below hA)
      clear r88_0
      have r89_1 := Lib.hid (r88_1.out.below hA)
      clear r88_1
      have r89_2 := Lib.hid (r88_2.out.below hA)
      clear r88_2
      have r89_3 := Lib.hid (r88_3.out.below hA)
      clear r88_3
      have r89_4 := Lib.hid (r88_4.out.below hA)
      clear r88_4
      clear hA
      go_wp2_with fail
      refine (iComposeSlot_c 1 3 (some ⟨w85.heap.size + 1, 0, none⟩) 2 2 [(5, 3), (7, 1)] _ L_f.out (by omega) (by decide : composeSlot (1, 3) [(5, 3), (7, 1)] = (7, 1))).mono ?_
      rintro e w86 ⟨rfl, hb⟩
      have B90 := B89.trans (hb.mono B89.size)
      clear B89
      have c90_0 := below_keep hb _ _ c89_0
      clear c89_0
      have c90_1 := below_keep hb _ _ c89_1
      clear c89_1
      have c90_2 := below_keep hb _ _ c89_2
      clear c89_2
      have c90_3 := below_keep hb _ _ c89_3
      clear c89_3
      have c90_4 := below_keep hb _ _ c89_4
      clear c89_4
      have c90_5 := below_keep hb _ _ c89_5
      clear c89_5
      have r90_0 := Lib.hid (r89_0.out.below hb)
      clear r89_0
      have r90_1 := Lib.hid (r89_1.out.below hb)
      clear r89_1
      have r90_2 := Lib.hid (r89_2.out.below hb)
      clear r89_2
      have r90_3 := Lib.hid (r89_3.out.below hb)
      clear r89_3
      have r90_4 := Lib.hid (r89_4.out.below hb)
      clear r89_4
      have r90_5 := Lib.hid (L_f.out.below hb)
      clear L_f
      clear hb
      have X := Box.new w86 7 1
      have bx0_one := X.c0
      have bx1_one := X.c1
      clear X
      have hA := (Below.refl (w86).heap.size (w86)).alloc (Nat.le_refl _) (.cells #[.int .i64 7, .int .i64 1] 41)
      have B91 := B90.trans (hA.mono B90.size)
      clear B90
      have c91_0 := below_keep hA _ _ c90_0
      clear c90_0
      have c91_1 := below_keep hA _ _ c90_1
      clear c90_1
      have c91_2 := below_keep hA _ _ c90_2
      clear c90_2
      have c91_3 := below_keep hA _ _ c90_3
      clear c90_3
      have c91_4 := below_keep hA _ _ c90_4
      clear c90_4
      have c91_5 := below_keep hA _ _ c90_5
      clear c90_5
      have r91_0 := Lib.hid (r90_0.out.below hA)
      clear r90_0
      have r91_1 := Lib.hid (r90_1.out.below hA)
      clear r90_1
      have r91_2 := Lib.hid (r90_2.out.below hA)
      clear r90_2
      have r91_3 := Lib.hid (r90_3.out.below hA)
      clear r90_3
      have r91_4 := Lib.hid (r90_4.out.below hA)
      clear r90_4
      clear hA
      obtain ⟨vb, HVb⟩ : ∃ y, Hid (belowS (p_a, r_a) (p_b, r_b) = y) := ⟨_, Lib.hid rfl⟩
      obtain ⟨vt, HVt⟩ : ∃ y, Hid (tableBelow l_t l_u = y) := ⟨_, Lib.hid rfl⟩
      obtain ⟨⟨cx, cy⟩, hcx⟩ : ∃ y, composeSlot (p_x, r_x) l_y = y := ⟨_, rfl⟩
      have HCX := Lib.hid hcx
      clear hcx
      have HWV : Hid (tableBelow (l_v.map fun s => restrictS s x_r) l_v = true) := Lib.hid (by have := tableBelow_map l_v (fun s => restrictS s x_r) (fun s => s) (fun s _ => below_restrict s x_r); simpa using this)
      have hvb : (vb == vb) = true := by simp
      have hvt : (vt == vt) = true := by simp
      have hcc : (cx == cx) = true := by simp
      have hcd : (cy == cy) = true := by simp
      have hnn : ((n_in : Int) == (n_in : Int)) = true := by simp
      clear M_r
      go_upto_region 20 with fail
      go_cut [2] (fun c wc => c = .bool true ∧ Below (w86.alloc (.cells #[.int .i64 7, .int .i64 1] 41)).heap.size (w86.alloc (.cells #[.int .i64 7, .int .i64 1] 41)) wc)
      case first =>
        have hBB := Below.refl (w86.alloc (.cells #[.int .i64 7, .int .i64 1] 41)).heap.size (w86.alloc (.cells #[.int .i64 7, .int .i64 1] 41))
        have hD := (Below.refl (w86.alloc (.cells #[.int .i64 7, .int .i64 1] 41)).heap.size (w86.alloc (.cells #[.int .i64 7, .int .i64 1] 41))).drew
        have B92 := hBB.trans (hD.mono hBB.size)
        clear hBB
        have c92_0 := below_keep hD _ _ c91_0
        clear c91_0
        have c92_1 := below_keep hD _ _ c91_1
        clear c91_1
        have c92_2 := below_keep hD _ _ c91_2
        clear c91_2
        have c92_3 := below_keep hD _ _ c91_3
        clear c91_3
        have c92_4 := below_keep hD _ _ c91_4
        clear c91_4
        have c92_5 := below_keep hD _ _ c91_5
        clear c91_5
        have c92_6 := below_keep hD _ _ bx0_one
        clear bx0_one
        have c92_7 := below_keep hD _ _ bx1_one
        clear bx1_one
        have r92_0 := Lib.hid (r91_0.out.below hD)
        clear r91_0
        have r92_1 := Lib.hid (r91_1.out.below hD)
        clear r91_1
        have r92_2 := Lib.hid (r91_2.out.below hD)
        clear r91_2
        have r92_3 := Lib.hid (r91_3.out.below hD)
        clear r91_3
        have r92_4 := Lib.hid (r91_4.out.below hD)
        clear r91_4
        clear hD
        go_region_held3 (fun w' => w'.cell? ⟨w81.heap.size, 0, none⟩ = some (.int .i64 p_a) ∧ w'.cell? ⟨w81.heap.size, 1, none⟩ = some (.int .i64 r_a) ∧ w'.cell? ⟨w81.heap.size + 1, 0, none⟩ = some (.int .i64 p_b) ∧ w'.cell? ⟨w81.heap.size + 1, 1, none⟩ = some (.int .i64 r_b) ∧ w'.cell? ⟨w85.heap.size, 0, none⟩ = some (.int .i64 p_x) ∧ w'.cell? ⟨w85.heap.size, 1, none⟩ = some (.int .i64 r_x) ∧ w'.cell? ⟨w86.heap.size, 0, none⟩ = some (.int .i64 7) ∧ w'.cell? ⟨w86.heap.size, 1, none⟩ = some (.int .i64 1)) (refine ⟨?_, ?_, ?_, ?_, ?_, ?_, ?_, ?_⟩ <;> assumption) (first | (go_at_call 86; (with_reducible refine (iBelow_v HVb.out _).mono ?_); rintro e w87 ⟨rfl, hb⟩; have B93 := B92.trans (hb.mono B92.size); clear B92; have c93_0 := below_keep hb _ _ c92_0; clear c92_0; have c93_1 := below_keep hb _ _ c92_1; clear c92_1; have c93_2 := below_keep hb _ _ c92_2; clear c92_2; have c93_3 := below_keep hb _ _ c92_3; clear c92_3; have c93_4 := below_keep hb _ _ c92_4; clear c92_4; have c93_5 := below_keep hb _ _ c92_5; clear c92_5; have c93_6 := below_keep hb _ _ c92_6; clear c92_6; have c93_7 := below_keep hb _ _ c92_7; clear c92_7; have r93_0 := Lib.hid (r92_0.out.below hb); clear r92_0; have r93_1 := Lib.hid (r92_1.out.below hb); clear r92_1; have r93_2 := Lib.hid (r92_2.out.below hb); clear r92_2; have r93_3 := Lib.hid (r92_3.out.below hb); clear r92_3; have r93_4 := Lib.hid (r92_4.out.below hb); clear r92_4; clear hb) | (go_at_call 91; (with_reducible refine (sBelow_v HVb.out _).mono ?_); rintro e w88 ⟨rfl, hb⟩; have B94 := B93.trans (hb.mono B93.size); clear B93; have c94_0 := below_keep hb _ _ c93_0; clear c93_0; have c94_1 := below_keep hb _ _ c93_1; clear c93_1; have c94_2 := below_keep hb _ _ c93_2; clear c93_2; have c94_3 := below_keep hb _ _ c93_3; clear c93_3; have c94_4 := below_keep hb _ _ c93_4; clear c93_4; have c94_5 := below_keep hb _ _ c93_5; clear c93_5; have c94_6 := below_keep hb _ _ c93_6; clear c93_6; have c94_7 := below_keep hb _ _ c93_7; clear c93_7; have r94_0 := Lib.hid (r93_0.out.below hb); clear r93_0; have r94_1 := Lib.hid (r93_1.out.below hb); clear r93_1; have r94_2 := Lib.hid (r93_2.out.below hb); clear r93_2; have r94_3 := Lib.hid (r93_3.out.below hb); clear r93_3; have r94_4 := Lib.hid (r93_4.out.below hb); clear r93_4; clear hb) | (go_at_call 57; (with_reducible refine (iTableBelow_v HVt.out A_t A_u n_t n_u c_t c_u _ r94_0.out r94_1.out (by omega) (by omega)).mono ?_); rintro e w89 ⟨rfl, hb⟩; have B95 := B94.trans (hb.mono B94.size); clear B94; have c95_0 := below_keep hb _ _ c94_0; clear c94_0; have c95_1 := below_keep hb _ _ c94_1; clear c94_1; have c95_2 := below_keep hb _ _ c94_2; clear c94_2; have c95_3 := below_keep hb _ _ c94_3; clear c94_3; have c95_4 := below_keep hb _ _ c94_4; clear c94_4; have c95_5 := below_keep hb _ _ c94_5; clear c94_5; have c95_6 := below_keep hb _ _ c94_6; clear c94_6; have c95_7 := below_keep hb _ _ c94_7; clear c94_7; have r95_0 := Lib.hid (r94_0.out.below hb); clear r94_0; have r95_1 := Lib.hid (r94_1.out.below hb); clear r94_1; have r95_2 := Lib.hid (r94_2.out.below hb); clear r94_2; have r95_3 := Lib.hid (r94_3.out.below hb); clear r94_3; have r95_4 := Lib.hid (r94_4.out.below hb); clear r94_4; clear hb) | (go_at_call 92; (with_reducible refine (sTableBelow_v HVt.out A_t A_u n_t n_u c_t c_u _ r95_0.out r95_1.out (by omega) (by omega)).mono ?_); rintro e w90 ⟨rfl, hb⟩; have B96 := B95.trans (hb.mono B95.size); clear B95; have c96_0 := below_keep hb _ _ c95_0; clear c95_0; have c96_1 := below_keep hb _ _ c95_1; clear c95_1; have c96_2 := below_keep hb _ _ c95_2; clear c95_2; have c96_3 := below_keep hb _ _ c95_3; clear c95_3; have c96_4 := below_keep hb _ _ c95_4; clear c95_4; have c96_5 := below_keep hb _ _ c95_5; clear c95_5; have c96_6 := below_keep hb _ _ c95_6; clear c95_6; have c96_7 := below_keep hb _ _ c95_7; clear c95_7; have r96_0 := Lib.hid (r95_0.out.below hb); clear r95_0; have r96_1 := Lib.hid (r95_1.out.below hb); clear r95_1; have r96_2 := Lib.hid (r95_2.out.below hb); clear r95_2; have r96_3 := Lib.hid (r95_3.out.below hb); clear r95_3; have r96_4 := Lib.hid (r95_4.out.below hb); clear r95_4; clear hb) | (go_at_call 93; (with_reducible refine (sRestrict_c A_v n_v c_v l_v x_r _ r96_2.out (by omega)).mono ?_); rintro e w91 ⟨A_z, c_z, rfl, own, hb⟩; have Q := Lib.hid (Rd.of_own own); clear own; have B97 := B96.trans (hb.mono B96.size); clear B96; have c97_0 := below_keep hb _ _ c96_0; clear c96_0; have c97_1 := below_keep hb _ _ c96_1; clear c96_1; have c97_2 := below_keep hb _ _ c96_2; clear c96_2; have c97_3 := below_keep hb _ _ c96_3; clear c96_3; have c97_4 := below_keep hb _ _ c96_4; clear c96_4; have c97_5 := below_keep hb _ _ c96_5; clear c96_5; have c97_6 := below_keep hb _ _ c96_6; clear c96_6; have c97_7 := below_keep hb _ _ c96_7; clear c96_7; have r97_0 := Lib.hid (r96_0.out.below hb); clear r96_0; have r97_1 := Lib.hid (r96_1.out.below hb); clear r96_1; have r97_2 := Lib.hid (r96_2.out.below hb); clear r96_2; have r97_3 := Lib.hid (r96_3.out.below hb); clear r96_3; have r97_4 := Lib.hid (r96_4.out.below hb); clear r96_4; clear hb; have R_z := Q; clear Q) | (go_at_call 42; (with_reducible refine (sameSlots_t A_w A_z n_v c_w c_z (l_v.map fun s => restrictS s x_r) _ r97_3.out R_z.out (by omega)).mono ?_); rintro e w92 ⟨rfl, hb⟩; have B98 := B97.trans (hb.mono B97.size); clear B97; have c98_0 := below_keep hb _ _ c97_0; clear c97_0; have c98_1 := below_keep hb _ _ c97_1; clear c97_1; have c98_2 := below_keep hb _ _ c97_2; clear c97_2; have c98_3 := below_keep hb _ _ c97_3; clear c97_3; have c98_4 := below_keep hb _ _ c97_4; clear c97_4; have c98_5 := below_keep hb _ _ c97_5; clear c97_5; have c98_6 := below_keep hb _ _ c97_6; clear c97_6; have c98_7 := below_keep hb _ _ c97_7; clear c97_7; have r98_0 := Lib.hid (r97_0.out.below hb); clear r97_0; have r98_1 := Lib.hid (r97_1.out.below hb); clear r97_1; have r98_2 := Lib.hid (r97_2.out.below hb); clear r97_2; have r98_3 := Lib.hid (r97_3.out.below hb); clear r97_3; have r98_4 := Lib.hid (r97_4.out.below hb); clear r97_4; have r98_5 := Lib.hid (R_z.out.below hb); clear R_z; clear hb) | (go_at_call 57; (with_reducible refine (iTableBelow_v HWV.out A_w A_v n_v n_v c_w c_v _ r98_3.out r98_2.out (by omega) (by omega)).mono ?_); rintro e w93 ⟨rfl, hb⟩; have B99 := B98.trans (hb.mono B98.size); clear B98; have c99_0 := below_keep hb _ _ c98_0; clear c98_0; have c99_1 := below_keep hb _ _ c98_1; clear c98_1; have c99_2 := below_keep hb _ _ c98_2; clear c98_2; have c99_3 := below_keep hb _ _ c98_3; clear c98_3; have c99_4 := below_keep hb _ _ c98_4; clear c98_4; have c99_5 := below_keep hb _ _ c98_5; clear c98_5; have c99_6 := below_keep hb _ _ c98_6; clear c98_6; have c99_7 := below_keep hb _ _ c98_7; clear c98_7; have r99_0 := Lib.hid (r98_0.out.below hb); clear r98_0; have r99_1 := Lib.hid (r98_1.out.below hb); clear r98_1; have r99_2 := Lib.hid (r98_2.out.below hb); clear r98_2; have r99_3 := Lib.hid (r98_3.out.below hb); clear r98_3; have r99_4 := Lib.hid (r98_4.out.below hb); clear r98_4; have r99_5 := Lib.hid (r98_5.out.below hb); clear r98_5; clear hb) | (go_at_call 90; (with_reducible refine (iComposeSlot_c p_x r_x A_y n_y c_y l_y _ r99_4.out (by omega) HCX.out).mono ?_); rintro e w94 ⟨rfl, hb⟩; have B100 := B99.trans (hb.mono B99.size); clear B99; have c100_0 := below_keep hb _ _ c99_0; clear c99_0; have c100_1 := below_keep hb _ _ c99_1; clear c99_1; have c100_2 := below_keep hb _ _ c99_2; clear c99_2; have c100_3 := below_keep hb _ _ c99_3; clear c99_3; have c100_4 := below_keep hb _ _ c99_4; clear c99_4; have c100_5 := below_keep hb _ _ c99_5; clear c99_5; have c100_6 := below_keep hb _ _ c99_6; clear c99_6; have c100_7 := below_keep hb _ _ c99_7; clear c99_7; have r100_0 := Lib.hid (r99_0.out.below hb); clear r99_0; have r100_1 := Lib.hid (r99_1.out.below hb); clear r99_1; have r100_2 := Lib.hid (r99_2.out.below hb); clear r99_2; have r100_3 := Lib.hid (r99_3.out.below hb); clear r99_3; have r100_4 := Lib.hid (r99_4.out.below hb); clear r99_4; have r100_5 := Lib.hid (r99_5.out.below hb); clear r99_5; clear hb) | (go_at_call 94; (with_reducible refine (sComposeSlot_c p_x r_x A_y n_y c_y l_y _ r100_4.out (by omega) HCX.out).mono ?_); rintro e w95 ⟨rfl, hb⟩; have B101 := B100.trans (hb.mono B100.size); clear B100; have c101_0 := below_keep hb _ _ c100_0; clear c100_0; have c101_1 := below_keep hb _ _ c100_1; clear c100_1; have c101_2 := below_keep hb _ _ c100_2; clear c100_2; have c101_3 := below_keep hb _ _ c100_3; clear c100_3; have c101_4 := below_keep hb _ _ c100_4; clear c100_4; have c101_5 := below_keep hb _ _ c100_5; clear c100_5; have c101_6 := below_keep hb _ _ c100_6; clear c100_6; have c101_7 := below_keep hb _ _ c100_7; clear c100_7; have r101_0 := Lib.hid (r100_0.out.below hb); clear r100_0; have r101_1 := Lib.hid (r100_1.out.below hb); clear r100_1; have r101_2 := Lib.hid (r100_2.out.below hb); clear r100_2; have r101_3 := Lib.hid (r100_3.out.below hb); clear r100_3; have r101_4 := Lib.hid (r100_4.out.below hb); clear r100_4; have r101_5 := Lib.hid (r100_5.out.below hb); clear r100_5; clear hb))
        all_goals (go_wp2_with fail; go_meet; exact ⟨rfl, B101⟩)
      case rest =>
      obtain ⟨rfl, hb⟩ := hcut
      obtain ⟨w96, hwc⟩ : ∃ x, x = wc := ⟨_, rfl⟩
      subst hwc
      have B102 := B91.trans (hb.mono B91.size)
      clear B91
      have c102_0 := below_keep hb _ _ c91_0
      clear c91_0
      have c102_1 := below_keep hb _ _ c91_1
      clear c91_1
      have c102_2 := below_keep hb _ _ c91_2
      clear c91_2
      have c102_3 := below_keep hb _ _ c91_3
      clear c91_3
      have c102_4 := below_keep hb _ _ c91_4
      clear c91_4
      have c102_5 := below_keep hb _ _ c91_5
      clear c91_5
      have c102_6 := below_keep hb _ _ bx0_one
      clear bx0_one
      have c102_7 := below_keep hb _ _ bx1_one
      clear bx1_one
      have r102_0 := Lib.hid (r91_0.out.below hb)
      clear r91_0
      have r102_1 := Lib.hid (r91_1.out.below hb)
      clear r91_1
      have r102_2 := Lib.hid (r91_2.out.below hb)
      clear r91_2
      have r102_3 := Lib.hid (r91_3.out.below hb)
      clear r91_3
      have r102_4 := Lib.hid (r91_4.out.below hb)
      clear r91_4
      clear hb
      clear c102_0 c102_1 c102_2 c102_3 c102_4 c102_5 c102_6 c102_7
      go_wp2
      go_ret
      exact ⟨rfl, B102⟩

/-! ### The row's step -/
theorem own : ownKnob Try.prog.godebug = none := by kernel_rfl
theorem laidOut : laidOutB Try.prog = true := by kernel_rfl
set_option maxRecDepth 100000 in
theorem lifted (os : Os) (started : os.Started) (H : Type) (enc : TypeId × Value → H) :
    ReturnsInHanded {} Try.checked os 14 .any (Rows.fnComposedSpec.pre6 enc Try.prog Try.f14 Rows.fnComposedRow.domain false) (Rows.fnComposedSpec.post enc Try.prog Try.f14 false true false false) := by
  refine returnsInHanded_of_change (C := Try.checked) own started (by kernel_rfl) Try.func14
    (ChangeSpec.witness6 (enc := enc) (C := Try.checked) false ⟨#[], #[.slice none 0 0], []⟩ 8 (by kernel_rfl) (by kernel_rfl) (by kernel_rfl) (by kernel_rfl)) ?_
  intro W base args ds gs before hval0 hW hcnd _
  have hval : ∀ (j : Nat) t v, Try.f14.params[j]? = some t → args[j]? = some v → Value.okWide Try.prog W .any base t v := hval0
  have hW' := hW
  obtain ⟨p, q, hA0, hV, rfl, hfz, hnd⟩ := hW
  have hA : DataW.TrodAll enc Try.prog W 0 (fun _ => true) true Try.f14.params.toList args.toList ds p := hA0
  rw [Try.params14] at hA hval
  obtain ⟨v0, vs0, d0, ds0, p0, q0, hargs, rfl, rfl, h0, r0⟩ := trodAll_cons hA
  obtain ⟨rfl, rfl, rfl⟩ := trodAll_nil r0
  obtain rfl : args = #[v0] := by cases args; simp_all
  obtain ⟨rfl, rfl⟩ := trodVars_none hV
  have k0 := h0
  have lt0 : ∀ x ∈ p0, x.block < W.heap.size := by obtain ⟨m, hm⟩ := k0; exact DataW.trod_lt m _ _ _ hm
  obtain ⟨a0, len0, cap0, rfl⟩ := okWide_slice Try.underlying53 (hval 0 53 v0 rfl rfl)
  obtain ⟨l0, w0⟩ := opn_bytes k0
  clear hA0 hval0
  refine (walk a0 len0 cap0 l0 W w0).mono fun e W' ⟨he, bel⟩ => ?_
  subst he
  exact ⟨_, rfl, _, _, _, [], _, [], hW', trodAll_mk1 (shut_bool Try.underlying4 _), (trodAll_cons_mk (Below.trod laidOut (by kernel_rfl) (of_decide_eq_true (by kernel_rfl)) k0 bel lt0) trodAll_mk0), rfl, bel.frame _, fun h => by cases h⟩

theorem over : Rows.fnComposedRow.holds Try.pinned (OpenSpec.ofChange Rows.fnComposedSpec) :=
  OpenClaim.holds_of_wide 14 Try.f14 rfl rfl rfl rfl rfl rfl rfl ⟨rfl, rfl, rfl, rfl, rfl⟩ rfl rfl rfl rfl rfl (by kernel_rfl) Try.func14 (by kernel_rfl)
    (of_decide_eq_true (by kernel_rfl)) (by unfold Func.isWrapper; first | (rw [if_pos (by decide +kernel)]; kernel_rfl) | (rw [if_neg (by decide +kernel)]; exact ⟨rfl, rfl⟩))
    (fun os started H enc _ => lifted os started H enc)

/-- The statement. -/
theorem proved : Rows.FnComposedSaid := over
#print axioms proved
end Go.Proofs.Ytlfnhfipnjgifaa.fnComposed
