/- Contracts of the laws' own functions sameInts, sameLists, sameMem. The slices hold at most 1048576 elements. -/
import Derived.Test.YtjgphiialfhdlaaMemF4
namespace Go.Proofs.Ytjgphiialfhdlaa
open Go.RowKit
set_option linter.unusedVariables false
set_option maxHeartbeats 1000000

theorem sameInts_c (A B : Option Addr) (n m c d : Nat) (l r : List Int) (w : World) (ha : Rd w 1 A n (intCells l)) (hb : Rd w 1 B m (intCells r)) (hn : n ≤ 1048576) (hm : m ≤ 1048576) :
    Calls Try.prog 51 #[.slice A n c, .slice B m d] w fun e w' => e = .returned (.bool (decide (l = r))) ∧ Below w.heap.size w w' := by
  have hl := ints_len ha
  have hr := ints_len hb
  by_cases hnm : n = m
  · subst hnm
    go_enter Try.func51, Try.ntmps51
    go_wp2
    go_loopw [5] (fun i wr => ∃ k : Nat, k ≤ n ∧ i = .int .i64 k ∧ Hid (l.take k = r.take k) ∧ Below w.heap.size w wr) (fun i _ => n - (intOf i).toNat)
    case atStart => exact ⟨0, by omega, rfl, rfl, Below.refl _ _⟩
    case round =>
      obtain ⟨k, hk, rfl, heq, hbel⟩ := hrel
      by_cases hlt : k < n
      · obtain ⟨b, o, p, rfl, hlk, c0⟩ := (ha.below hbel).int k hlt
        obtain ⟨b', o', p', rfl, hrk, c2⟩ := (hb.below hbel).int k hlt
        have f0 : ∀ x : Ext wr, x.w.cell? _ = _ := fun x => (x.cell (World.block_lt_of_cell? _ _ c0)).trans c0
        have f2 : ∀ x : Ext wr, x.w.cell? _ = _ := fun x => (x.cell (World.block_lt_of_cell? _ _ c2)).trans c2
        have H1 := Lib.hid hlk
        have H2 := Lib.hid hrk
        have H3 := Lib.hid hl
        have H4 := Lib.hid hr
        clear c0 c2 hlk hrk hl hr
        cases hs : (p == p')
        all_goals
          go_wp2_with fail
          refine wp_region_ext (by kernel_rfl) (by kernel_rfl) ?_
          repeat (go_big_quiet_step (fail))
          refine wpQuiet_nil ?_
          intro w1 hw'
          have hb1 := Ext.out hw'
          clear hw' f0 f2
          go_wp2
        · go_ret
          refine ⟨?_, hbel.trans (hb1.mono hbel.size)⟩
          have hne : l ≠ r := by
            rintro rfl
            have e := H1.out.symm.trans H2.out
            simp only [Option.some.injEq] at e
            simp [e] at hs
          simp [hne]
        · go_roundw
          case rel =>
            refine ⟨k + 1, by omega, by go_num, ?_, hbel.trans (hb1.mono hbel.size)⟩
            show l.take (k + 1) = r.take (k + 1)
            rw [List.take_add_one, List.take_add_one, heq.out, H1.out, H2.out, eq_of_beq hs]
          case measure => simp [intOf]; omega
      · go_wp2
        go_ret
        refine ⟨?_, hbel⟩
        obtain rfl : k = n := by omega
        have e := heq.out
        rw [List.take_of_length_le (by omega), List.take_of_length_le (by omega)] at e
        simp [e]
  · have h0 : ((n : Int) == m) = false := by simp; omega
    go_enter Try.func51, Try.ntmps51
    go_wp2
    go_ret
    have hne : l ≠ r := by rintro rfl; omega
    exact ⟨by simp [hne], Below.refl _ _⟩
theorem sameInts_t (A B : Option Addr) (n c d : Nat) (l : List Int) (w : World) (ha : Rd w 1 A n (intCells l)) (hb : Rd w 1 B n (intCells l)) (hn : n ≤ 1048576) :
    Calls Try.prog 51 #[.slice A n c, .slice B n d] w fun e w' => e = .returned (.bool true) ∧ Below w.heap.size w w' := by
  have := sameInts_c A B n n c d l l w ha hb hn hn
  rwa [decide_eq_true rfl] at this
theorem sameInts_v {l r : List Int} {v : Bool} (h : decide (l = r) = v) (A B : Option Addr) (n m c d : Nat) (w : World) (ha : Rd w 1 A n (intCells l)) (hb : Rd w 1 B m (intCells r)) (hn : n ≤ 1048576) (hm : m ≤ 1048576) :
    Calls Try.prog 51 #[.slice A n c, .slice B m d] w fun e w' => e = .returned (.bool v) ∧ Below w.heap.size w w' := h ▸ sameInts_c A B n m c d l r w ha hb hn hm
theorem sameLists_c (A B : Option Addr) (n m c d : Nat) (L R : List (List Int)) (w : World) (ha : Mx w A n L) (hb : Mx w B m R) (hn : n ≤ 1048576) (hm : m ≤ 1048576) (hL : Rows L) (hR : Rows R) :
    Calls Try.prog 72 #[.slice A n c, .slice B m d] w fun e w' => e = .returned (.bool (decide (L = R))) ∧ Below w.heap.size w w' := by
  have hl := ha.1
  have hr := hb.1
  have HL : Hid (Rows L) := hL
  have HR : Hid (Rows R) := hR
  clear hL hR
  by_cases hnm : n = m
  · subst hnm
    go_enter Try.func72, Try.ntmps72
    go_wp2
    go_loopw [5] (fun i wr => ∃ k : Nat, k ≤ n ∧ i = .int .i64 k ∧ Hid (L.take k = R.take k) ∧ Below w.heap.size w wr) (fun i _ => n - (intOf i).toNat)
    case atStart => exact ⟨0, by omega, rfl, rfl, Below.refl _ _⟩
    case round =>
      obtain ⟨k, hk, rfl, heq, hbel⟩ := hrel
      by_cases hlt : k < n
      · obtain ⟨b, o, Ai, ci, l, rfl, hlk, c0, hrd⟩ := (ha.below hbel).row k hlt
        obtain ⟨b', o', Bi, di, r, rfl, hrk, c2, hrd'⟩ := (hb.below hbel).row k hlt
        have hq1 := HL.out k l hlk
        have hq2 := HR.out k r hrk
        have f0 : ∀ x : Ext wr, x.w.cell? _ = _ := fun x => (x.cell (World.block_lt_of_cell? _ _ c0)).trans c0
        have f2 : ∀ x : Ext wr, x.w.cell? _ = _ := fun x => (x.cell (World.block_lt_of_cell? _ _ c2)).trans c2
        have H1 := Lib.hid hlk
        have H2 := Lib.hid hrk
        have H3 := Lib.hid hl
        have H4 := Lib.hid hr
        clear c0 c2 hlk hrk hl hr
        cases hs : decide (l = r)
        all_goals
          have H5 := Lib.hid hs
          clear hs
          go_wp2_with fail
          refine wp_region_ext (by kernel_rfl) (by kernel_rfl) ?_
          repeat (go_big_quiet_step ((go_at_call 51; exact Ext.call _ (sameInts_v H5.out _ _ _ _ _ _ _ (hrd.below (Ext.below _)) (hrd'.below (Ext.below _)) hq1 hq2))))
          refine wpQuiet_nil ?_
          intro w1 hw'
          have hb1 := Ext.out hw'
          clear hw' f0 f2 hrd hrd'
          go_wp2
        · go_ret
          refine ⟨?_, hbel.trans (hb1.mono hbel.size)⟩
          have hne : L ≠ R := by
            rintro rfl
            have e := H1.out.symm.trans H2.out
            simp only [Option.some.injEq] at e
            simpa [e] using H5.out
          simp [hne]
        · go_roundw
          case rel =>
            refine ⟨k + 1, by omega, by go_num, ?_, hbel.trans (hb1.mono hbel.size)⟩
            show L.take (k + 1) = R.take (k + 1)
            rw [List.take_add_one, List.take_add_one, heq.out, H1.out, H2.out, of_decide_eq_true H5.out]
          case measure => simp [intOf]; omega
      · go_wp2
        go_ret
        refine ⟨?_, hbel⟩
        obtain rfl : k = n := by omega
        have e := heq.out
        rw [List.take_of_length_le (by omega), List.take_of_length_le (by omega)] at e
        simp [e]
  · have h0 : ((n : Int) == m) = false := by simp; omega
    go_enter Try.func72, Try.ntmps72
    go_wp2
    go_ret
    have hne : L ≠ R := by rintro rfl; omega
    exact ⟨by simp [hne], Below.refl _ _⟩
theorem sameMem_c (A B : Option Addr) (n m c d : Nat) (L R : List (List Int)) (w : World) (ha : Mx w A n L) (hb : Mx w B m R) (hn : n ≤ 1048576) (hm : m ≤ 1048576) (hL : Rows L) (hR : Rows R) :
    Calls Try.prog 44 #[.slice A n c, .slice B m d] w fun e w' => e = .returned (.bool (decide (L = R))) ∧ Below w.heap.size w w' := by
  go_enter Try.func44, Try.ntmps44
  go_wp2_with fail
  refine (sameLists_c A B n m c d L R w ha hb hn hm hL hR).mono ?_
  rintro e w1 ⟨rfl, hb1⟩
  go_wp2
  go_ret
  exact ⟨rfl, hb1⟩
theorem sameMem_t (A B : Option Addr) (n c d : Nat) (L : List (List Int)) (w : World) (ha : Mx w A n L) (hb : Mx w B n L) (hn : n ≤ 1048576) (hL : Rows L) :
    Calls Try.prog 44 #[.slice A n c, .slice B n d] w fun e w' => e = .returned (.bool true) ∧ Below w.heap.size w w' := by
  have := sameMem_c A B n n c d L L w ha hb hn hn hL hL
  rwa [decide_eq_true rfl] at this
theorem sameMem_v {L R : List (List Int)} {v : Bool} (h : decide (L = R) = v) (A B : Option Addr) (n m c d : Nat) (w : World) (ha : Mx w A n L) (hb : Mx w B m R) (hn : n ≤ 1048576) (hm : m ≤ 1048576) (hL : Rows L) (hR : Rows R) :
    Calls Try.prog 44 #[.slice A n c, .slice B m d] w fun e w' => e = .returned (.bool v) ∧ Below w.heap.size w w' := h ▸ sameMem_c A B n m c d L R w ha hb hn hm hL hR
end Go.Proofs.Ytjgphiialfhdlaa
