/- Contracts of table functions: SameTable. The tables hold at most 1048576 slots. -/
import Derived.Test.YtlfnhfipnjgifaaTab
namespace Go.Proofs.Ytlfnhfipnjgifaa
open Go.RowKit
set_option linter.unusedVariables false
set_option maxHeartbeats 1000000

theorem eqSlices_c (A B : Option Addr) (n m c d : Nat) (l r : List Sl) (w : World) (ha : Rd w 2 A n (slotCells l)) (hb : Rd w 2 B m (slotCells r)) (hn : n ≤ 1048576) (hm : m ≤ 1048576) :
    Calls Try.prog 111 #[.slice A n c, .slice B m d] w fun e w' => e = .returned (.bool (decide (l = r))) ∧ Below w.heap.size w w' := by
  have hl := slots_len ha
  have hr := slots_len hb
  by_cases hnm : n = m
  · subst hnm
    go_enter Try.func111, Try.ntmps111
    go_wp2
    go_loopw [13] (fun i wr => ∃ k : Nat, k ≤ n ∧ i = .int .i64 k ∧ Hid (l.take k = r.take k) ∧ Below w.heap.size w wr) (fun i _ => n - (intOf i).toNat)
    case atStart => exact ⟨0, by omega, rfl, rfl, Below.refl _ _⟩
    case round =>
      obtain ⟨k, hk, rfl, heq, hbel⟩ := hrel
      by_cases hlt : k < n
      · obtain ⟨b, o, p, q, rfl, hlk, c0, c1⟩ := (ha.below hbel).slot k hlt
        obtain ⟨b', o', p', q', rfl, hrk, c2, c3⟩ := (hb.below hbel).slot k hlt
        have f0 := ext_cells c0
        have f1 := ext_cells c1
        have f2 := ext_cells c2
        have f3 := ext_cells c3
        have H1 := Lib.hid hlk
        have H2 := Lib.hid hrk
        have H3 := Lib.hid hl
        have H4 := Lib.hid hr
        clear c0 c1 c2 c3 hlk hrk hl hr
        have cases3 : ((p == p') = true ∧ (q == q') = true) ∨ ((p == p') = false ∨ ((p == p') = true ∧ (q == q') = false)) := by
          cases (p == p') <;> cases (q == q') <;> simp
        rcases cases3 with ⟨s1, s2⟩ | s
        · go_wp2_with fail
          refine wp_region_ext (by kernel_rfl) (by kernel_rfl) ?_
          repeat (go_big_quiet_step (fail))
          refine wpQuiet_nil ?_
          intro w1 hw'
          have hb1 := Ext.out hw'
          clear hw' f0 f1 f2 f3
          go_wp2
          go_roundw
          case rel =>
            refine ⟨k + 1, by omega, by go_num, ?_, hbel.trans (hb1.mono hbel.size)⟩
            show l.take (k + 1) = r.take (k + 1)
            rw [List.take_add_one, List.take_add_one, heq.out, H1.out, H2.out, eq_of_beq s1, eq_of_beq s2]
          case measure => simp [intOf]; omega
        · have hne : Hid (l ≠ r) := by
            rintro rfl
            have e := H1.out.symm.trans H2.out
            simp only [Option.some.injEq, Prod.mk.injEq] at e
            rcases s with s | ⟨_, s⟩ <;> simp [e.1, e.2] at s
          rcases s with s1 | ⟨s1, s2⟩
          all_goals
            go_wp2_with fail
            refine wp_region_ext (by kernel_rfl) (by kernel_rfl) ?_
            repeat (go_big_quiet_step (fail))
            refine wpQuiet_nil ?_
            intro w1 hw'
            have hb1 := Ext.out hw'
            clear hw' f0 f1 f2 f3
            go_wp2
            go_ret
            exact ⟨by simp [hne.out], hbel.trans (hb1.mono hbel.size)⟩
      · go_wp2
        go_ret
        refine ⟨?_, hbel⟩
        obtain rfl : k = n := by omega
        have e := heq.out
        rw [List.take_of_length_le (by omega), List.take_of_length_le (by omega)] at e
        simp [e]
  · have h0 : ((n : Int) == m) = false := by simp; omega
    go_enter Try.func111, Try.ntmps111
    go_wp2
    go_ret
    have hne : l ≠ r := by rintro rfl; omega
    exact ⟨by simp [hne], Below.refl _ _⟩
theorem iSameTable_c (A B : Option Addr) (n m c d : Nat) (l r : List Sl) (w : World) (ha : Rd w 2 A n (slotCells l)) (hb : Rd w 2 B m (slotCells r)) (hn : n ≤ 1048576) (hm : m ≤ 1048576) :
    Calls Try.prog 52 #[.slice A n c, .slice B m d] w fun e w' => e = .returned (.bool (decide (l = r))) ∧ Below w.heap.size w w' := by
  go_enter Try.func52, Try.ntmps52
  go_wp2_with fail
  refine (eqSlices_c A B n m c d l r _ ha hb hn hm).mono ?_
  rintro e w1 ⟨rfl, hb1⟩
  go_wp2
  go_ret
  exact ⟨rfl, hb1⟩
end Go.Proofs.Ytlfnhfipnjgifaa
