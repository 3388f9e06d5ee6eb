/- The law FnCells returns true for every input: what was put into a cell is there, all other cells are as they were. No condition. -/
import Derived.Test.YtjgphiialfhdlaaRows
import Derived.Test.YtjgphiialfhdlaaOpenB
import Derived.Test.YtjgphiialfhdlaaDrawO
import Derived.Test.YtjgphiialfhdlaaSameM
import Derived.Test.YtjgphiialfhdlaaLawM
import Derived.WalkKit
import Derived.ProofKit
import Derived.OpenShut
import Derived.ShutString
import Derived.ChangeOld
import Derived.Below
import Derived.Handy
import Derived.Carry
import Derived.Lib.SmallJoins
import Derived.WalkLawsBesides
import Derived.WalkSpells
import Derived.BigQuiet
import Derived.Deep.QuietTactic
import Derived.Outline
import Derived.Deep.RegionWith
import Derived.Deep.RegionHeld3
import Derived.Deep.DeepCutAuto
namespace Go.Proofs.Ytjgphiialfhdlaa.fnCells
open Go.ChangeShapes Go.WideShapes Go.ChangeAt Go.RowKit
open Go.ChangeMaps (open_string shut_string)
set_option linter.unusedVariables false
set_option linter.unusedSimpArgs false

theorem iCellAt_v {L : List (List Int)} {p q v : Int} (h : cellAt L p q = v) (A : Option Addr) (n c : Nat) (w : World) (ha : Mx w A n L) (hn : n ≤ 1048576) (hr : Rows L) :
    Calls Try.prog 29 #[.slice A n c, .int .i64 p, .int .i64 q] w fun e w' => e = .returned (.int .i64 v) ∧ w = w' := h ▸ iCellAt_c p q A n c L w ha hn hr
theorem lit_mx (w : World) : Mx ((w.alloc (.cells #[.int .i64 1, .int .i64 2, .int .i64 3, .int .i64 4] 3)).alloc (.cells #[.slice (some ⟨w.heap.size, 0, none⟩) 4 4] 22)) (some ⟨w.heap.size + 1, 0, none⟩) 1 [[1, 2, 3, 4]] := by
  refine ⟨rfl, fun _ => ⟨w.heap.size + 1, 0, rfl, fun i l hl => ?_⟩⟩
  have hi : i = 0 := by have := (List.getElem?_eq_some_iff.1 hl).1; simp at this; exact this
  subst hi
  simp at hl
  subst hl
  refine ⟨some ⟨w.heap.size, 0, none⟩, 4, ?_, ?_⟩
  · have := cell_of_row ((w.alloc (.cells #[.int .i64 1, .int .i64 2, .int .i64 3, .int .i64 4] 3)).alloc (.cells #[.slice (some ⟨w.heap.size, 0, none⟩) 4 4] 22)) (w.heap.size + 1) 0 #[.slice (some ⟨w.heap.size, 0, none⟩) 4 4] 22 (0, 0) (by
      have := heap_alloc_new (w.alloc (.cells #[.int .i64 1, .int .i64 2, .int .i64 3, .int .i64 4] 3)) (.cells #[.slice (some ⟨w.heap.size, 0, none⟩) 4 4] 22)
      simpa using this)
    exact this
  · have O := World.ownsRow_lit (base := w.heap.size) (e := 3) (size := 1) w #[.int .i64 1, .int .i64 2, .int .i64 3, .int .i64 4] 4 (Nat.le_refl _) (by unfold maxLen; omega) (by simp)
    exact (Rd.of_own O).below ((Below.refl _ _).alloc (Nat.le_refl _) _)
set_option maxHeartbeats 4000000 in
set_option maxRecDepth 20000 in
theorem walk (a0 : Option Addr) (len0 cap0 : Nat) (l0 : Nat) (w : World) (h0 : Bytes w w.heap.size a0 len0 ∧ len0 ≤ maxLen) :
    Calls Try.prog 12 #[.slice a0 len0 cap0] w fun e w' => e = .returned (.bool true) ∧ Below w.heap.size w w' := by
  obtain ⟨hb, hm⟩ := h0
  by_cases hbig : 1048576 < len0
  · go_enter Try.func12, Try.ntmps12
    go_wp2_with fail
    refine (big_c _ _ _ _ hm).mono ?_
    rintro e w' ⟨rfl, rfl⟩
    rw [decide_eq_true hbig]
    go_wp2
    go_ret
    exact ⟨rfl, Below.refl _ _⟩
  have hle : len0 ≤ 1048576 := by omega
  have HB := Lib.hid hb
  clear hb
  go_enter Try.func12, Try.ntmps12
  go_wp2_with fail
  refine (big_c _ _ _ _ hm).mono ?_
  rintro e w' ⟨rfl, rfl⟩
  rw [decide_eq_false hbig]
  clear hbig hm
  have B0 := Below.refl w.heap.size w
  go_wp2_with fail
  refine (DrawWithCell_c a0 len0 cap0 _ HB.out hle).mono ?_
  rintro e w1 ⟨A_m, n_m, c_m, l_m, x_page, x_cell, x_v, rfl, D_m, m_page, m_cell, m_v, hb⟩
  have B1 := B0.trans (hb.mono B0.size)
  clear B0
  have HB1 := Lib.hid (HB.out.grow hb)
  clear HB
  clear hb
  have hn_m := D_m.1
  have S_m := Lib.hid D_m.2.1
  have R_m := Lib.hid D_m.2.2
  clear D_m
  have M_page := Lib.hid m_page
  clear m_page
  have M_cell := Lib.hid m_cell
  clear m_cell
  have M_v := Lib.hid m_v
  clear m_v
  have SR := Lib.hid S_m.out.rows
  go_wp2_with fail
  refine (iWithCell_c x_page x_cell x_v A_m n_m c_m l_m _ R_m.out (by omega) SR.out).mono ?_
  rintro e w2 ⟨A_X, c_X, vs_X, rfl, own, hb⟩
  have Q := Lib.hid own.mx
  clear own
  have B2 := B1.trans (hb.mono B1.size)
  clear B1
  have r2_0 := Lib.hid (R_m.out.below hb)
  clear R_m
  have HB2 := Lib.hid (HB1.out.grow hb)
  clear HB1
  clear hb
  have R_X := Q
  clear Q
  go_wp2_with fail
  refine (DrawCellAt_c a0 len0 cap0 _ HB2.out hle).mono ?_
  rintro e w3 ⟨A_a, n_a, c_a, l_a, x_p, x_k, rfl, D_a, m_p, m_k, hb⟩
  have B3 := B2.trans (hb.mono B2.size)
  clear B2
  have r3_0 := Lib.hid (r2_0.out.below hb)
  clear r2_0
  have r3_1 := Lib.hid (R_X.out.below hb)
  clear R_X
  have HB3 := Lib.hid (HB2.out.grow hb)
  clear HB2
  clear hb
  have hn_a := D_a.1
  have S_a := Lib.hid D_a.2.1
  have R_a := Lib.hid D_a.2.2
  clear D_a
  have M_p := Lib.hid m_p
  clear m_p
  have M_k := Lib.hid m_k
  clear m_k
  have SA := Lib.hid S_a.out.rows
  have SX := Lib.hid (withCell_rows l_m x_page x_cell x_v SR.out)
  obtain ⟨va, HV⟩ : ∃ y, Hid (cellAt l_a x_p x_k = y) := ⟨_, Lib.hid rfl⟩
  go_wp2_with fail
  refine (sWithCell_c x_page x_cell x_v A_m n_m c_m l_m _ r3_0.out (by omega) SR.out).mono ?_
  rintro e w4 ⟨A_W, c_W, vs_W, rfl, own, hb⟩
  have Q := Lib.hid own.mx
  clear own
  have B4 := B3.trans (hb.mono B3.size)
  clear B3
  have r4_0 := Lib.hid (r3_0.out.below hb)
  clear r3_0
  have r4_1 := Lib.hid (r3_1.out.below hb)
  clear r3_1
  have r4_2 := Lib.hid (R_a.out.below hb)
  clear R_a
  have HB4 := Lib.hid (HB3.out.grow hb)
  clear HB3
  clear hb
  have R_W := Q
  clear Q
  go_wp2_with fail
  refine (sameMem_t A_X A_W n_m c_X c_W (withCell l_m x_page x_cell x_v) _ r4_1.out R_W.out (by omega) SX.out).mono ?_
  rintro e w5 ⟨rfl, hb⟩
  have B5 := B4.trans (hb.mono B4.size)
  clear B4
  have r5_0 := Lib.hid (r4_0.out.below hb)
  clear r4_0
  have r5_1 := Lib.hid (r4_1.out.below hb)
  clear r4_1
  have r5_2 := Lib.hid (r4_2.out.below hb)
  clear r4_2
  have r5_3 := Lib.hid (R_W.out.below hb)
  clear R_W
  have HB5 := Lib.hid (HB4.out.grow hb)
  clear HB4
  clear hb
  have hvv : (va == va) = true := by simp
  go_wp2_with fail
  refine (iCellAt_c x_p x_k A_a n_a c_a l_a _ r5_2.out (by omega) SA.out).mono ?_
  rintro e w' ⟨rfl, rfl⟩
  rw [HV.out]
  go_wp2_with fail
  refine (sCellAt_c x_p x_k A_a n_a c_a l_a _ r5_2.out (by omega) SA.out).mono ?_
  rintro e w' ⟨rfl, rfl⟩
  rw [HV.out]
  obtain ⟨wo, hwo⟩ : ∃ x, x = w5 := ⟨_, rfl⟩
  subst hwo
  go_wp2
  go_loopw [11] (fun q wr => ∃ k : Nat, k ≤ n_m ∧ q = .int .i64 k ∧ wo = wr) (fun q _ => n_m - (intOf q).toNat)
  case atStart => exact ⟨0, by omega, rfl, rfl⟩
  case round =>
    obtain ⟨k, hk, rfl, rfl⟩ := hrel
    by_cases hlt : k < n_m
    · obtain ⟨bm, om, Ai, ci, l, rfl, hlk, c0, hrd⟩ := r5_0.out.row k hlt
      have HLK := Lib.hid hlk
      have HRD := Lib.hid hrd
      have hl5 := S_m.out l (List.mem_of_getElem? hlk)
      clear hlk hrd
      go_wp2
      go_loopw [12] (fun q wr => ∃ j : Nat, j ≤ l.length ∧ q = .int .i64 j ∧ wo = wr) (fun q _ => l.length - (intOf q).toNat)
      case atStart => exact ⟨0, by omega, rfl, rfl⟩
      case round =>
        obtain ⟨j, hj, rfl, rfl⟩ := hrel
        by_cases hltj : j < l.length
        · obtain ⟨br, orr, x, rfl, hx, cx⟩ := HRD.out.int j hltj
          have hlaw := cells_law l_m x_page x_cell x_v k j l x HLK.out hx
          clear hx
          obtain ⟨want, hwant⟩ : ∃ y, cellAt (withCell l_m x_page x_cell x_v) (k : Int) (j : Int) = y := ⟨_, rfl⟩
          have HW := Lib.hid hwant
          rw [hwant] at hlaw
          clear hwant
          have hcases : (((k : Int) == x_page) = false ∧ want = x) ∨ (((k : Int) == x_page) = true ∧ ((j : Int) == x_cell) = false ∧ want = x) ∨ (((k : Int) == x_page) = true ∧ ((j : Int) == x_cell) = true ∧ decide (0 ≤ x_v) = false ∧ want = x) ∨ (((k : Int) == x_page) = true ∧ ((j : Int) == x_cell) = true ∧ decide (0 ≤ x_v) = true ∧ decide (x_v ≤ 99) = false ∧ want = x) ∨ (((k : Int) == x_page) = true ∧ ((j : Int) == x_cell) = true ∧ decide (0 ≤ x_v) = true ∧ decide (x_v ≤ 99) = true ∧ want = x_v) := by
            by_cases h1 : (k : Int) = x_page
            · by_cases h2 : (j : Int) = x_cell
              · by_cases h3 : 0 ≤ x_v
                · by_cases h4 : x_v ≤ 99
                  · right; right; right; right; rw [if_pos ⟨h1, h2, h3, h4⟩] at hlaw; exact ⟨by simp [h1], by simp [h2], by simp [h3], by simp [h4], hlaw⟩
                  · right; right; right; left; rw [if_neg (fun h => h4 h.2.2.2)] at hlaw; exact ⟨by simp [h1], by simp [h2], by simp [h3], by simp; omega, hlaw⟩
                · right; right; left; rw [if_neg (fun h => h3 h.2.2.1)] at hlaw; exact ⟨by simp [h1], by simp [h2], by simp; omega, hlaw⟩
              · right; left; rw [if_neg (fun h => h2 h.2.1)] at hlaw; exact ⟨by simp [h1], by simp [h2], hlaw⟩
            · left; rw [if_neg (fun h => h1 h.1)] at hlaw; exact ⟨by simp [h1], hlaw⟩
          clear hlaw
          rcases hcases with ⟨q1, rfl⟩ | ⟨q1, q2, rfl⟩ | ⟨q1, q2, q3, rfl⟩ | ⟨q1, q2, q3, q4, rfl⟩ | ⟨q1, q2, q3, q4, rfl⟩
          all_goals
            go_wp2_with (go_at_call 29; (with_reducible refine (iCellAt_v HW.out A_X n_m c_X _ r5_1.out (by omega) SX.out).mono ?_); rintro e w' ⟨rfl, rfl⟩)
            go_roundw
            case rel => exact ⟨j + 1, by omega, by go_num, by first | trivial | rfl⟩
            case measure => simp [intOf]; omega
        · obtain rfl : j = l.length := by omega
          go_wp2
          go_roundw
          case rel => exact ⟨k + 1, by omega, by go_num, by first | trivial | rfl⟩
          case measure => simp [intOf]; omega
    · obtain rfl : k = n_m := by omega
      have LM := Lib.hid (lit_mx wo)
      have LR : Rows [[1, 2, 3, 4]] := by intro i l hl; have := List.mem_of_getElem? hl; simp at this; subst this; simp
      have LB := (B5.alloc B5.size (.cells #[.int .i64 1, .int .i64 2, .int .i64 3, .int .i64 4] 3)).alloc (by have := B5.size; simp; omega) (.cells #[.slice (some ⟨wo.heap.size, 0, none⟩) 4 4] 22)
      go_wp2_with fail
      refine (iCellAt_v (show cellAt [[1, 2, 3, 4]] 0 2 = 3 by decide) _ 1 1 _ LM.out (by omega) LR).mono ?_
      rintro e w' ⟨rfl, rfl⟩
      go_wp2
      go_ret
      exact ⟨rfl, LB⟩

/-! ### The row's step -/
theorem own : ownKnob Try.prog.godebug = none := by kernel_rfl
theorem laidOut : laidOutB Try.prog = true := by kernel_rfl
set_option maxRecDepth 100000 in
theorem lifted (os : Os) (started : os.Started) (H : Type) (enc : TypeId × Value → H) :
    ReturnsInHanded {} Try.checked os 12 .any (Rows.fnCellsSpec.pre6 enc Try.prog Try.f12 Rows.fnCellsRow.domain false) (Rows.fnCellsSpec.post enc Try.prog Try.f12 false true false false) := by
  refine returnsInHanded_of_change (C := Try.checked) own started (by kernel_rfl) Try.func12
    (ChangeSpec.witness6 (enc := enc) (C := Try.checked) false ⟨#[], #[.slice none 0 0], []⟩ 8 (by kernel_rfl) (by kernel_rfl) (by kernel_rfl) (by kernel_rfl)) ?_
  intro W base args ds gs before hval0 hW hcnd _
  have hval : ∀ (j : Nat) t v, Try.f12.params[j]? = some t → args[j]? = some v → Value.okWide Try.prog W .any base t v := hval0
  have hW' := hW
  obtain ⟨p, q, hA0, hV, rfl, hfz, hnd⟩ := hW
  have hA : DataW.TrodAll enc Try.prog W 0 (fun _ => true) true Try.f12.params.toList args.toList ds p := hA0
  rw [Try.params12] at hA hval
  obtain ⟨v0, vs0, d0, ds0, p0, q0, hargs, rfl, rfl, h0, r0⟩ := trodAll_cons hA
  obtain ⟨rfl, rfl, rfl⟩ := trodAll_nil r0
  obtain rfl : args = #[v0] := by cases args; simp_all
  obtain ⟨rfl, rfl⟩ := trodVars_none hV
  have k0 := h0
  have lt0 : ∀ x ∈ p0, x.block < W.heap.size := by obtain ⟨m, hm⟩ := k0; exact DataW.trod_lt m _ _ _ hm
  obtain ⟨a0, len0, cap0, rfl⟩ := okWide_slice Try.underlying41 (hval 0 41 v0 rfl rfl)
  obtain ⟨l0, w0⟩ := opn_bytes k0
  clear hA0 hval0
  refine (walk a0 len0 cap0 l0 W w0).mono fun e W' ⟨he, bel⟩ => ?_
  subst he
  exact ⟨_, rfl, _, _, _, [], _, [], hW', trodAll_mk1 (shut_bool Try.underlying4 _), (trodAll_cons_mk (Below.trod laidOut (by kernel_rfl) (of_decide_eq_true (by kernel_rfl)) k0 bel lt0) trodAll_mk0), rfl, bel.frame _, fun h => by cases h⟩

theorem over : Rows.fnCellsRow.holds Try.pinned (OpenSpec.ofChange Rows.fnCellsSpec) :=
  OpenClaim.holds_of_wide 12 Try.f12 rfl rfl rfl rfl rfl rfl rfl ⟨rfl, rfl, rfl, rfl, rfl⟩ rfl rfl rfl rfl rfl (by kernel_rfl) Try.func12 (by kernel_rfl)
    (of_decide_eq_true (by kernel_rfl)) (by unfold Func.isWrapper; first | (rw [if_pos (by decide +kernel)]; kernel_rfl) | (rw [if_neg (by decide +kernel)]; exact ⟨rfl, rfl⟩))
    (fun os started H enc _ => lifted os started H enc)

/-- The statement. -/
theorem proved : Rows.FnCellsSaid := over
#print axioms proved
end Go.Proofs.Ytjgphiialfhdlaa.fnCells
