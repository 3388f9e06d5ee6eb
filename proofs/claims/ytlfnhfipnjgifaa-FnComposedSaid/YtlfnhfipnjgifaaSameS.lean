/- Contracts of the laws' own comparisons sameSlots and sameInts. The slices hold at most 1048576 elements. -/
import Derived.Test.YtlfnhfipnjgifaaSame
import Derived.Test.YtlfnhfipnjgifaaIntL
namespace Go.Proofs.Ytlfnhfipnjgifaa
open Go.RowKit
set_option linter.unusedVariables false
set_option maxHeartbeats 1000000

theorem sameSlots_c (A B : Option Addr) (n m c d : Nat) (l r : List Sl) (w : World) (ha : Rd w 2 A n (slotCells l)) (hb : Rd w 2 B m (slotCells r)) (hn : n ≤ 1048576) (hm : m ≤ 1048576) :
    Calls Try.prog 42 #[.slice A n c, .slice B m d] w fun e w' => e = .returned (.bool (decide (l = r))) ∧ Below w.heap.size w w' := by
  have hl := slots_len ha
  have hr := slots_len hb
  by_cases hnm : n = m
  · subst hnm
    go_enter Try.func42, Try.ntmps42
    go_wp2
    go_loopw [5] (fun i wr => ∃ k : Nat, k ≤ n ∧ i = .int .i64 k ∧ Hid (l.take k = r.take k) ∧ Below w.heap.size w wr) (fun i _ => n - (intOf i).toNat)
    case atStart => exact ⟨0, by omega, rfl, rfl, Below.refl _ _⟩
    case round =>
      obtain ⟨k, hk, rfl, heq, hbel⟩ := hrel
      by_cases hlt : k < n
      · obtain ⟨b, o, p, q, rfl, hlk, c0, c1⟩ := (ha.below hbel).slot k hlt
        obtain ⟨b', o', p', q', rfl, hrk, c2, c3⟩ := (hb.below hbel).slot k hlt
        have f0 := ext_cells c0
        have f1 := ext_cells c1
        have f2 := ext_cells c2
        have f3 := ext_cells c3
        have H1 := Lib.hid hlk
        have H2 := Lib.hid hrk
        have H3 := Lib.hid hl
        have H4 := Lib.hid hr
        clear c0 c1 c2 c3 hlk hrk hl hr
        have cases3 : ((p == p') = true ∧ (q == q') = true) ∨ ((p == p') = false ∨ ((p == p') = true ∧ (q == q') = false)) := by
          cases (p == p') <;> cases (q == q') <;> simp
        rcases cases3 with ⟨s1, s2⟩ | s
        · go_wp2_with fail
          refine wp_region_ext (by kernel_rfl) (by kernel_rfl) ?_
          repeat (go_big_quiet_step (fail))
          refine wpQuiet_nil ?_
          intro w1 hw'
          have hb1 := Ext.out hw'
          clear hw' f0 f1 f2 f3
          go_wp2
          go_roundw
          case rel =>
            refine ⟨k + 1, by omega, by go_num, ?_, hbel.trans (hb1.mono hbel.size)⟩
            show l.take (k + 1) = r.take (k + 1)
            rw [List.take_add_one, List.take_add_one, heq.out, H1.out, H2.out, eq_of_beq s1, eq_of_beq s2]
          case measure => simp [intOf]; omega
        · have hne : Hid (l ≠ r) := by
            rintro rfl
            have e := H1.out.symm.trans H2.out
            simp only [Option.some.injEq, Prod.mk.injEq] at e
            rcases s with s | ⟨_, s⟩ <;> simp [e.1, e.2] at s
          rcases s with s1 | ⟨s1, s2⟩
          all_goals
            go_wp2_with fail
            refine wp_region_ext (by kernel_rfl) (by kernel_rfl) ?_
            repeat (go_big_quiet_step (fail))
            refine wpQuiet_nil ?_
            intro w1 hw'
            have hb1 := Ext.out hw'
            clear hw' f0 f1 f2 f3
            go_wp2
            go_ret
            exact ⟨by simp [hne.out], hbel.trans (hb1.mono hbel.size)⟩
      · go_wp2
        go_ret
        refine ⟨?_, hbel⟩
        obtain rfl : k = n := by omega
        have e := heq.out
        rw [List.take_of_length_le (by omega), List.take_of_length_le (by omega)] at e
        simp [e]
  · have h0 : ((n : Int) == m) = false := by simp; omega
    go_enter Try.func42, Try.ntmps42
    go_wp2
    go_ret
    have hne : l ≠ r := by rintro rfl; omega
    exact ⟨by simp [hne], Below.refl _ _⟩
theorem sameInts_c (A B : Option Addr) (n m c d : Nat) (l r : List Int) (w : World) (ha : Rd w 1 A n (intCells l)) (hb : Rd w 1 B m (intCells r)) (hn : n ≤ 1048576) (hm : m ≤ 1048576) :
    Calls Try.prog 47 #[.slice A n c, .slice B m d] w fun e w' => e = .returned (.bool (decide (l = r))) ∧ Below w.heap.size w w' := by
  have hl := ints_len ha
  have hr := ints_len hb
  by_cases hnm : n = m
  · subst hnm
    go_enter Try.func47, Try.ntmps47
    go_wp2
    go_loopw [5] (fun i wr => ∃ k : Nat, k ≤ n ∧ i = .int .i64 k ∧ Hid (l.take k = r.take k) ∧ Below w.heap.size w wr) (fun i _ => n - (intOf i).toNat)
    case atStart => exact ⟨0, by omega, rfl, rfl, Below.refl _ _⟩
    case round =>
      obtain ⟨k, hk, rfl, heq, hbel⟩ := hrel
      by_cases hlt : k < n
      · obtain ⟨b, o, p, rfl, hlk, c0⟩ := (ha.below hbel).int k hlt
        obtain ⟨b', o', p', rfl, hrk, c2⟩ := (hb.below hbel).int k hlt
        have f0 : ∀ x : Ext wr, x.w.cell? _ = _ := fun x => (x.cell (World.block_lt_of_cell? _ _ c0)).trans c0
        have f2 : ∀ x : Ext wr, x.w.cell? _ = _ := fun x => (x.cell (World.block_lt_of_cell? _ _ c2)).trans c2
        have H1 := Lib.hid hlk
        have H2 := Lib.hid hrk
        have H3 := Lib.hid hl
        have H4 := Lib.hid hr
        clear c0 c2 hlk hrk hl hr
        cases hs : (p == p')
        all_goals
          go_wp2_with fail
          refine wp_region_ext (by kernel_rfl) (by kernel_rfl) ?_
          repeat (go_big_quiet_step (fail))
          refine wpQuiet_nil ?_
          intro w1 hw'
          have hb1 := Ext.out hw'
          clear hw' f0 f2
          go_wp2
        · go_ret
          refine ⟨?_, hbel.trans (hb1.mono hbel.size)⟩
          have hne : l ≠ r := by
            rintro rfl
            have e := H1.out.symm.trans H2.out
            simp only [Option.some.injEq] at e
            simp [e] at hs
          simp [hne]
        · go_roundw
          case rel =>
            refine ⟨k + 1, by omega, by go_num, ?_, hbel.trans (hb1.mono hbel.size)⟩
            show l.take (k + 1) = r.take (k + 1)
            rw [List.take_add_one, List.take_add_one, heq.out, H1.out, H2.out, eq_of_beq hs]
          case measure => simp [intOf]; omega
      · go_wp2
        go_ret
        refine ⟨?_, hbel⟩
        obtain rfl : k = n := by omega
        have e := heq.out
        rw [List.take_of_length_le (by omega), List.take_of_length_le (by omega)] at e
        simp [e]
  · have h0 : ((n : Int) == m) = false := by simp; omega
    go_enter Try.func47, Try.ntmps47
    go_wp2
    go_ret
    have hne : l ≠ r := by rintro rfl; omega
    exact ⟨by simp [hne], Below.refl _ _⟩
theorem sameSlots_t (A B : Option Addr) (n c d : Nat) (l : List Sl) (w : World) (ha : Rd w 2 A n (slotCells l)) (hb : Rd w 2 B n (slotCells l)) (hn : n ≤ 1048576) :
    Calls Try.prog 42 #[.slice A n c, .slice B n d] w fun e w' => e = .returned (.bool true) ∧ Below w.heap.size w w' := by
  have := sameSlots_c A B n n c d l l w ha hb hn hn
  rwa [decide_eq_true rfl] at this
theorem sameInts_t (A B : Option Addr) (n c d : Nat) (l : List Int) (w : World) (ha : Rd w 1 A n (intCells l)) (hb : Rd w 1 B n (intCells l)) (hn : n ≤ 1048576) :
    Calls Try.prog 47 #[.slice A n c, .slice B n d] w fun e w' => e = .returned (.bool true) ∧ Below w.heap.size w w' := by
  have := sameInts_c A B n n c d l l w ha hb hn hn
  rwa [decide_eq_true rfl] at this
end Go.Proofs.Ytlfnhfipnjgifaa
