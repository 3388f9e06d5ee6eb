/- The law FnMonotone returns true for every input: composition is monotone in both tables. No condition. -/
import Derived.Test.YtlfnhfipnjgifaaRows
import Derived.Test.YtlfnhfipnjgifaaOpenB
import Derived.Test.YtlfnhfipnjgifaaDrawT
import Derived.Test.YtlfnhfipnjgifaaCompose
import Derived.Test.YtlfnhfipnjgifaaRestrict
import Derived.Test.YtlfnhfipnjgifaaLoops2
import Derived.Test.YtlfnhfipnjgifaaSameS
import Derived.Test.YtlfnhfipnjgifaaLawT
import Derived.WalkKit
import Derived.ProofKit
import Derived.OpenShut
import Derived.ShutString
import Derived.ChangeOld
import Derived.Below
import Derived.Handy
import Derived.Carry
import Derived.Lib.SmallJoins
import Derived.WalkLawsBesides
import Derived.WalkSpells
import Derived.BigQuiet
import Derived.Deep.QuietTactic
import Derived.Outline
namespace Go.Proofs.Ytlfnhfipnjgifaa.fnMonotone
open Go.ChangeShapes Go.WideShapes Go.ChangeAt Go.RowKit
open Go.ChangeMaps (open_string shut_string)
set_option linter.unusedVariables false
set_option linter.unusedSimpArgs false

theorem iTableBelow_v {l r : List Sl} {v : Bool} (h : tableBelow l r = v) (A B : Option Addr) (n m c d : Nat) (w : World) (ha : Rd w 2 A n (slotCells l)) (hb : Rd w 2 B m (slotCells r)) (hn : n ≤ 1048576) (hm : m ≤ 1048576) :
    Calls Try.prog 57 #[.slice A n c, .slice B m d] w fun e w' => e = .returned (.bool v) ∧ Below w.heap.size w w' := h ▸ iTableBelow_c A B n m c d l r w ha hb hn hm
set_option maxHeartbeats 4000000 in
set_option maxRecDepth 20000 in
theorem walk (a0 : Option Addr) (len0 cap0 : Nat) (l0 : Nat) (w : World) (h0 : Bytes w w.heap.size a0 len0 ∧ len0 ≤ maxLen) :
    Calls Try.prog 10 #[.slice a0 len0 cap0] w fun e w' => e = .returned (.bool true) ∧ Below w.heap.size w w' := by
  obtain ⟨hb, hm⟩ := h0
  by_cases hbig : 1048576 < len0
  · go_enter Try.func10, Try.ntmps10
    go_wp2_with fail
    refine (big_c _ _ _ _ hm).mono ?_
    rintro e w' ⟨rfl, rfl⟩
    rw [decide_eq_true hbig]
    go_wp2
    go_ret
    exact ⟨rfl, Below.refl _ _⟩
  have hle : len0 ≤ 1048576 := by omega
  have HB := Lib.hid hb
  clear hb
  go_enter Try.func10, Try.ntmps10
  go_wp2_with fail
  refine (big_c _ _ _ _ hm).mono ?_
  rintro e w' ⟨rfl, rfl⟩
  rw [decide_eq_false hbig]
  clear hbig hm
  have B0 := Below.refl w.heap.size w
  go_wp2_with fail
  refine (DrawCompose_c a0 len0 cap0 _ HB.out hle).mono ?_
  rintro e w1 ⟨A_in, n_in, c_in, l_in, A_ou, n_ou, c_ou, l_ou, rfl, D_in, D_ou, hb⟩
  have B1 := B0.trans (hb.mono B0.size)
  clear B0
  have HB1 := Lib.hid (HB.out.grow hb)
  clear HB
  clear hb
  have hn_in := D_in.1
  have R_in := Lib.hid D_in.2
  clear D_in
  have hn_ou := D_ou.1
  have R_ou := Lib.hid D_ou.2
  clear D_ou
  go_wp2_with fail
  refine (DrawRestrict_c a0 len0 cap0 _ HB1.out hle).mono ?_
  rintro e w2 ⟨A_un, n_un, c_un, l_un, x_q, rfl, D_un, m_q, hb⟩
  have B2 := B1.trans (hb.mono B1.size)
  clear B1
  have r2_0 := Lib.hid (R_in.out.below hb)
  clear R_in
  have r2_1 := Lib.hid (R_ou.out.below hb)
  clear R_ou
  have HB2 := Lib.hid (HB1.out.grow hb)
  clear HB1
  clear hb
  have hn_un := D_un.1
  have R_un := Lib.hid D_un.2
  clear D_un
  have M_q := Lib.hid m_q
  clear m_q
  obtain ⟨L1, L2, L3, L4⟩ := monotone l_in l_ou x_q
  have K1 := Lib.hid L1
  have K2 := Lib.hid L2
  have K3 := Lib.hid L3
  have K4 := Lib.hid L4
  clear L1 L2 L3 L4
  go_wp2_with fail
  refine (iCompose_c A_in A_ou n_in n_ou c_in c_ou l_in l_ou _ r2_0.out r2_1.out (by omega) (by omega)).mono ?_
  rintro e w3 ⟨A_C, c_C, rfl, own, hb⟩
  have Q := Lib.hid (Rd.of_own own)
  clear own
  have B3 := B2.trans (hb.mono B2.size)
  clear B2
  have r3_0 := Lib.hid (r2_0.out.below hb)
  clear r2_0
  have r3_1 := Lib.hid (r2_1.out.below hb)
  clear r2_1
  have r3_2 := Lib.hid (R_un.out.below hb)
  clear R_un
  have HB3 := Lib.hid (HB2.out.grow hb)
  clear HB2
  clear hb
  have R_C := Q
  clear Q
  go_wp2_with fail
  refine (iRestrict_c A_in n_in c_in l_in x_q _ r3_0.out (by omega)).mono ?_
  rintro e w4 ⟨A_ri, c_ri, rfl, own, hb⟩
  have Q := Lib.hid (Rd.of_own own)
  clear own
  have B4 := B3.trans (hb.mono B3.size)
  clear B3
  have r4_0 := Lib.hid (r3_0.out.below hb)
  clear r3_0
  have r4_1 := Lib.hid (r3_1.out.below hb)
  clear r3_1
  have r4_2 := Lib.hid (r3_2.out.below hb)
  clear r3_2
  have r4_3 := Lib.hid (R_C.out.below hb)
  clear R_C
  have HB4 := Lib.hid (HB3.out.grow hb)
  clear HB3
  clear hb
  have R_ri := Q
  clear Q
  go_wp2_with fail
  refine (iCompose_c A_ri A_ou n_in n_ou c_ri c_ou (l_in.map fun s => restrictS s x_q) l_ou _ R_ri.out r4_1.out (by omega) (by omega)).mono ?_
  rintro e w5 ⟨A_X, c_X, rfl, own, hb⟩
  have Q := Lib.hid (Rd.of_own own)
  clear own
  have B5 := B4.trans (hb.mono B4.size)
  clear B4
  have r5_0 := Lib.hid (r4_0.out.below hb)
  clear r4_0
  have r5_1 := Lib.hid (r4_1.out.below hb)
  clear r4_1
  have r5_2 := Lib.hid (r4_2.out.below hb)
  clear r4_2
  have r5_3 := Lib.hid (r4_3.out.below hb)
  clear r4_3
  have r5_4 := Lib.hid (R_ri.out.below hb)
  clear R_ri
  have HB5 := Lib.hid (HB4.out.grow hb)
  clear HB4
  clear hb
  have R_X := Q
  clear Q
  go_wp2_with fail
  refine (iRestrict_c A_ou n_ou c_ou l_ou x_q _ r5_1.out (by omega)).mono ?_
  rintro e w6 ⟨A_ro, c_ro, rfl, own, hb⟩
  have Q := Lib.hid (Rd.of_own own)
  clear own
  have B6 := B5.trans (hb.mono B5.size)
  clear B5
  have r6_0 := Lib.hid (r5_0.out.below hb)
  clear r5_0
  have r6_1 := Lib.hid (r5_1.out.below hb)
  clear r5_1
  have r6_2 := Lib.hid (r5_2.out.below hb)
  clear r5_2
  have r6_3 := Lib.hid (r5_3.out.below hb)
  clear r5_3
  have r6_4 := Lib.hid (r5_4.out.below hb)
  clear r5_4
  have r6_5 := Lib.hid (R_X.out.below hb)
  clear R_X
  have HB6 := Lib.hid (HB5.out.grow hb)
  clear HB5
  clear hb
  have R_ro := Q
  clear Q
  go_wp2_with fail
  refine (iCompose_c A_in A_ro n_in n_ou c_in c_ro l_in (l_ou.map fun s => restrictS s x_q) _ r6_0.out R_ro.out (by omega) (by omega)).mono ?_
  rintro e w7 ⟨A_Y, c_Y, rfl, own, hb⟩
  have Q := Lib.hid (Rd.of_own own)
  clear own
  have B7 := B6.trans (hb.mono B6.size)
  clear B6
  have r7_0 := Lib.hid (r6_0.out.below hb)
  clear r6_0
  have r7_1 := Lib.hid (r6_1.out.below hb)
  clear r6_1
  have r7_2 := Lib.hid (r6_2.out.below hb)
  clear r6_2
  have r7_3 := Lib.hid (r6_3.out.below hb)
  clear r6_3
  have r7_4 := Lib.hid (r6_4.out.below hb)
  clear r6_4
  have r7_5 := Lib.hid (r6_5.out.below hb)
  clear r6_5
  have r7_6 := Lib.hid (R_ro.out.below hb)
  clear R_ro
  have HB7 := Lib.hid (HB6.out.grow hb)
  clear HB6
  clear hb
  have R_Y := Q
  clear Q
  go_wp2_with fail
  refine (iTableBelow_v K1.out A_X A_C n_in n_in c_X c_C _ r7_5.out r7_3.out (by omega) (by omega)).mono ?_
  rintro e w8 ⟨rfl, hb⟩
  have B8 := B7.trans (hb.mono B7.size)
  clear B7
  have r8_0 := Lib.hid (r7_0.out.below hb)
  clear r7_0
  have r8_1 := Lib.hid (r7_1.out.below hb)
  clear r7_1
  have r8_2 := Lib.hid (r7_2.out.below hb)
  clear r7_2
  have r8_3 := Lib.hid (r7_3.out.below hb)
  clear r7_3
  have r8_4 := Lib.hid (r7_4.out.below hb)
  clear r7_4
  have r8_5 := Lib.hid (r7_5.out.below hb)
  clear r7_5
  have r8_6 := Lib.hid (r7_6.out.below hb)
  clear r7_6
  have r8_7 := Lib.hid (R_Y.out.below hb)
  clear R_Y
  clear hb
  go_wp2_with fail
  refine (iTableBelow_v K2.out A_Y A_C n_in n_in c_Y c_C _ r8_7.out r8_3.out (by omega) (by omega)).mono ?_
  rintro e w9 ⟨rfl, hb⟩
  have B9 := B8.trans (hb.mono B8.size)
  clear B8
  have r9_0 := Lib.hid (r8_0.out.below hb)
  clear r8_0
  have r9_1 := Lib.hid (r8_1.out.below hb)
  clear r8_1
  have r9_2 := Lib.hid (r8_2.out.below hb)
  clear r8_2
  have r9_3 := Lib.hid (r8_3.out.below hb)
  clear r8_3
  have r9_4 := Lib.hid (r8_4.out.below hb)
  clear r8_4
  have r9_5 := Lib.hid (r8_5.out.below hb)
  clear r8_5
  have r9_6 := Lib.hid (r8_6.out.below hb)
  clear r8_6
  have r9_7 := Lib.hid (r8_7.out.below hb)
  clear r8_7
  clear hb
  go_wp2_with fail
  refine (sameSlots_t A_X A_Y n_in c_X c_Y _ _ (K3.out ▸ r9_5.out) r9_7.out (by omega)).mono ?_
  rintro e w10 ⟨rfl, hb⟩
  have B10 := B9.trans (hb.mono B9.size)
  clear B9
  have r10_0 := Lib.hid (r9_0.out.below hb)
  clear r9_0
  have r10_1 := Lib.hid (r9_1.out.below hb)
  clear r9_1
  have r10_2 := Lib.hid (r9_2.out.below hb)
  clear r9_2
  have r10_3 := Lib.hid (r9_3.out.below hb)
  clear r9_3
  have r10_4 := Lib.hid (r9_4.out.below hb)
  clear r9_4
  have r10_5 := Lib.hid (r9_5.out.below hb)
  clear r9_5
  have r10_6 := Lib.hid (r9_6.out.below hb)
  clear r9_6
  have r10_7 := Lib.hid (r9_7.out.below hb)
  clear r9_7
  clear hb
  go_wp2_with fail
  refine (iTableBelow_v K4.out A_C A_C n_in n_in c_C c_C _ r10_3.out r10_3.out (by omega) (by omega)).mono ?_
  rintro e w11 ⟨rfl, hb⟩
  have B11 := B10.trans (hb.mono B10.size)
  clear B10
  have r11_0 := Lib.hid (r10_0.out.below hb)
  clear r10_0
  have r11_1 := Lib.hid (r10_1.out.below hb)
  clear r10_1
  have r11_2 := Lib.hid (r10_2.out.below hb)
  clear r10_2
  have r11_3 := Lib.hid (r10_3.out.below hb)
  clear r10_3
  have r11_4 := Lib.hid (r10_4.out.below hb)
  clear r10_4
  have r11_5 := Lib.hid (r10_5.out.below hb)
  clear r10_5
  have r11_6 := Lib.hid (r10_6.out.below hb)
  clear r10_6
  have r11_7 := Lib.hid (r10_7.out.below hb)
  clear r10_7
  clear hb
  have O := Rd.of_own (World.ownsRow_lit (base := w11.heap.size) (e := 41) (size := 2) w11 #[.int .i64 0, .int .i64 3] 1 (Nat.le_refl _) (by unfold maxLen; omega) (by simp))
  have L_e : Hid (Rd (w11.alloc (.cells #[.int .i64 0, .int .i64 3] 41)) 2 (some ⟨w11.heap.size, 0, none⟩) 1 (slotCells [(0, 3)])) := Lib.hid O
  clear O
  have hA := (Below.refl (w11).heap.size (w11)).alloc (Nat.le_refl _) (.cells #[.int .i64 0, .int .i64 3] 41)
  have B12 := B11.trans (hA.mono B11.size)
  clear B11
  have r12_0 := Lib.hid (r11_0.out.below hA)
  clear r11_0
  have r12_1 := Lib.hid (r11_1.out.below hA)
  clear r11_1
  have r12_2 := Lib.hid (r11_2.out.below hA)
  clear r11_2
  have r12_3 := Lib.hid (r11_3.out.below hA)
  clear r11_3
  have r12_4 := Lib.hid (r11_4.out.below hA)
  clear r11_4
  have r12_5 := Lib.hid (r11_5.out.below hA)
  clear r11_5
  have r12_6 := Lib.hid (r11_6.out.below hA)
  clear r11_6
  have r12_7 := Lib.hid (r11_7.out.below hA)
  clear r11_7
  clear hA
  have O := Rd.of_own (World.ownsRow_lit (base := (w11.alloc (.cells #[.int .i64 0, .int .i64 3] 41)).heap.size) (e := 41) (size := 2) (w11.alloc (.cells #[.int .i64 0, .int .i64 3] 41)) #[.int .i64 4, .int .i64 3] 1 (Nat.le_refl _) (by unfold maxLen; omega) (by simp))
  simp only [World.size_alloc] at O
  have L_f : Hid (Rd ((w11.alloc (.cells #[.int .i64 0, .int .i64 3] 41)).alloc (.cells #[.int .i64 4, .int .i64 3] 41)) 2 (some ⟨w11.heap.size + 1, 0, none⟩) 1 (slotCells [(4, 3)])) := Lib.hid O
  clear O
  have hA := (Below.refl ((w11.alloc (.cells #[.int .i64 0, .int .i64 3] 41))).heap.size ((w11.alloc (.cells #[.int .i64 0, .int .i64 3] 41)))).alloc (Nat.le_refl _) (.cells #[.int .i64 4, .int .i64 3] 41)
  have B13 := B12.trans (hA.mono B12.size)
  clear B12
  have r13_0 := Lib.hid (r12_0.out.below hA)
  clear r12_0
  have r13_1 := Lib.hid (r12_1.out.below hA)
  clear r12_1
  have r13_2 := Lib.hid (r12_2.out.below hA)
  clear r12_2
  have r13_3 := Lib.hid (r12_3.out.below hA)
  clear r12_3
  have r13_4 := Lib.hid (r12_4.out.below hA)
  clear r12_4
  have r13_5 := Lib.hid (r12_5.out.below hA)
  clear r12_5
  have r13_6 := Lib.hid (r12_6.out.below hA)
  clear r12_6
  have r13_7 := Lib.hid (r12_7.out.below hA)
  clear r12_7
  have r13_8 := Lib.hid (L_e.out.below hA)
  clear L_e
  clear hA
  go_wp2_with fail
  refine (iCompose_c (some ⟨w11.heap.size, 0, none⟩) (some ⟨w11.heap.size + 1, 0, none⟩) 1 1 1 1 [(0, 3)] [(4, 3)] _ r13_8.out L_f.out (by omega) (by omega)).mono ?_
  rintro e w12 ⟨A_Z, c_Z, rfl, own, hb⟩
  have Q := Lib.hid (Rd.of_own own)
  clear own
  have B14 := B13.trans (hb.mono B13.size)
  clear B13
  have r14_0 := Lib.hid (r13_0.out.below hb)
  clear r13_0
  have r14_1 := Lib.hid (r13_1.out.below hb)
  clear r13_1
  have r14_2 := Lib.hid (r13_2.out.below hb)
  clear r13_2
  have r14_3 := Lib.hid (r13_3.out.below hb)
  clear r13_3
  have r14_4 := Lib.hid (r13_4.out.below hb)
  clear r13_4
  have r14_5 := Lib.hid (r13_5.out.below hb)
  clear r13_5
  have r14_6 := Lib.hid (r13_6.out.below hb)
  clear r13_6
  have r14_7 := Lib.hid (r13_7.out.below hb)
  clear r13_7
  have r14_8 := Lib.hid (r13_8.out.below hb)
  clear r13_8
  have r14_9 := Lib.hid (L_f.out.below hb)
  clear L_f
  clear hb
  have R_Z := Q
  clear Q
  go_wp2
  go_ret
  exact ⟨rfl, B14⟩

/-! ### The row's step -/
theorem own : ownKnob Try.prog.godebug = none := by kernel_rfl
theorem laidOut : laidOutB Try.prog = true := by kernel_rfl
set_option maxRecDepth 100000 in
theorem lifted (os : Os) (started : os.Started) (H : Type) (enc : TypeId × Value → H) :
    ReturnsInHanded {} Try.checked os 10 .any (Rows.fnMonotoneSpec.pre6 enc Try.prog Try.f10 Rows.fnMonotoneRow.domain false) (Rows.fnMonotoneSpec.post enc Try.prog Try.f10 false true false false) := by
  refine returnsInHanded_of_change (C := Try.checked) own started (by kernel_rfl) Try.func10
    (ChangeSpec.witness6 (enc := enc) (C := Try.checked) false ⟨#[], #[.slice none 0 0], []⟩ 8 (by kernel_rfl) (by kernel_rfl) (by kernel_rfl) (by kernel_rfl)) ?_
  intro W base args ds gs before hval0 hW hcnd _
  have hval : ∀ (j : Nat) t v, Try.f10.params[j]? = some t → args[j]? = some v → Value.okWide Try.prog W .any base t v := hval0
  have hW' := hW
  obtain ⟨p, q, hA0, hV, rfl, hfz, hnd⟩ := hW
  have hA : DataW.TrodAll enc Try.prog W 0 (fun _ => true) true Try.f10.params.toList args.toList ds p := hA0
  rw [Try.params10] at hA hval
  obtain ⟨v0, vs0, d0, ds0, p0, q0, hargs, rfl, rfl, h0, r0⟩ := trodAll_cons hA
  obtain ⟨rfl, rfl, rfl⟩ := trodAll_nil r0
  obtain rfl : args = #[v0] := by cases args; simp_all
  obtain ⟨rfl, rfl⟩ := trodVars_none hV
  have k0 := h0
  have lt0 : ∀ x ∈ p0, x.block < W.heap.size := by obtain ⟨m, hm⟩ := k0; exact DataW.trod_lt m _ _ _ hm
  obtain ⟨a0, len0, cap0, rfl⟩ := okWide_slice Try.underlying53 (hval 0 53 v0 rfl rfl)
  obtain ⟨l0, w0⟩ := opn_bytes k0
  clear hA0 hval0
  refine (walk a0 len0 cap0 l0 W w0).mono fun e W' ⟨he, bel⟩ => ?_
  subst he
  exact ⟨_, rfl, _, _, _, [], _, [], hW', trodAll_mk1 (shut_bool Try.underlying4 _), (trodAll_cons_mk (Below.trod laidOut (by kernel_rfl) (of_decide_eq_true (by kernel_rfl)) k0 bel lt0) trodAll_mk0), rfl, bel.frame _, fun h => by cases h⟩

theorem over : Rows.fnMonotoneRow.holds Try.pinned (OpenSpec.ofChange Rows.fnMonotoneSpec) :=
  OpenClaim.holds_of_wide 10 Try.f10 rfl rfl rfl rfl rfl rfl rfl ⟨rfl, rfl, rfl, rfl, rfl⟩ rfl rfl rfl rfl rfl (by kernel_rfl) Try.func10 (by kernel_rfl)
    (of_decide_eq_true (by kernel_rfl)) (by unfold Func.isWrapper; first | (rw [if_pos (by decide +kernel)]; kernel_rfl) | (rw [if_neg (by decide +kernel)]; exact ⟨rfl, rfl⟩))
    (fun os started H enc _ => lifted os started H enc)

/-- The statement. -/
theorem proved : Rows.FnMonotoneSaid := over
#print axioms proved
end Go.Proofs.Ytlfnhfipnjgifaa.fnMonotone
