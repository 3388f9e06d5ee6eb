/- Contracts of memory functions: the program's SameMem. Bounds: at most 1048576 rows of at most 1048576 numbers. -/
import Derived.Test.YtjgphiialfhdlaaMemF4
namespace Go.Proofs.Ytjgphiialfhdlaa
open Go.RowKit
set_option linter.unusedVariables false
set_option maxHeartbeats 1000000

theorem eqFunc_c (A B : Option Addr) (n m c d : Nat) (L R : List (List Int)) (w : World) (ha : Mx w A n L) (hb : Mx w B m R) (hn : n ≤ 1048576) (hm : m ≤ 1048576) (hL : Rows L) (hR : Rows R) :
    Calls Try.prog 65 #[.slice A n c, .slice B m d, .func (.func 66) #[] #[]] w fun e w' => e = .returned (.bool (decide (L = R))) ∧ Below w.heap.size w w' := by
  have hl := ha.1
  have hr := hb.1
  have HL : Hid (Rows L) := hL
  have HR : Hid (Rows R) := hR
  clear hL hR
  by_cases hnm : n = m
  · subst hnm
    go_enter Try.func65, Try.ntmps65
    go_wp2
    go_loopw [17] (fun i wr => ∃ k : Nat, k ≤ n ∧ i = .int .i64 k ∧ Hid (L.take k = R.take k) ∧ Below w.heap.size w wr) (fun i _ => n - (intOf i).toNat)
    case atStart => exact ⟨0, by omega, rfl, rfl, Below.refl _ _⟩
    case round =>
      obtain ⟨k, hk, rfl, heq, hbel⟩ := hrel
      by_cases hlt : k < n
      · obtain ⟨b, o, Ai, ci, l, rfl, hlk, c0, hrd⟩ := (ha.below hbel).row k hlt
        obtain ⟨b', o', Bi, di, r, rfl, hrk, c2, hrd'⟩ := (hb.below hbel).row k hlt
        have hq1 := HL.out k l hlk
        have hq2 := HR.out k r hrk
        have H1 := Lib.hid hlk
        have H2 := Lib.hid hrk
        have H3 := Lib.hid hl
        have H4 := Lib.hid hr
        clear hlk hrk hl hr
        cases hs : decide (l = r)
        all_goals
          have H5 := Lib.hid hs
          clear hs
          go_wp2_with fail
          refine (same1_v H5.out _ _ _ _ _ _ _ hrd hrd' hq1 hq2).mono ?_
          rintro e w1 ⟨rfl, hb1⟩
          clear hrd hrd'
          go_wp2
        · go_ret
          refine ⟨?_, hbel.trans (hb1.mono hbel.size)⟩
          have hne : L ≠ R := by
            rintro rfl
            have e := H1.out.symm.trans H2.out
            simp only [Option.some.injEq] at e
            simpa [e] using H5.out
          simp [hne]
        · go_roundw
          case rel =>
            refine ⟨k + 1, by omega, by go_num, ?_, hbel.trans (hb1.mono hbel.size)⟩
            show L.take (k + 1) = R.take (k + 1)
            rw [List.take_add_one, List.take_add_one, heq.out, H1.out, H2.out, of_decide_eq_true H5.out]
          case measure => simp [intOf]; omega
      · go_wp2
        go_ret
        refine ⟨?_, hbel⟩
        obtain rfl : k = n := by omega
        have e := heq.out
        rw [List.take_of_length_le (by omega), List.take_of_length_le (by omega)] at e
        simp [e]
  · have h0 : ((n : Int) == m) = false := by simp; omega
    go_enter Try.func65, Try.ntmps65
    go_wp2
    go_ret
    have hne : L ≠ R := by rintro rfl; omega
    exact ⟨by simp [hne], Below.refl _ _⟩
theorem iSameMem_c (A B : Option Addr) (n m c d : Nat) (L R : List (List Int)) (w : World) (ha : Mx w A n L) (hb : Mx w B m R) (hn : n ≤ 1048576) (hm : m ≤ 1048576) (hL : Rows L) (hR : Rows R) :
    Calls Try.prog 39 #[.slice A n c, .slice B m d] w fun e w' => e = .returned (.bool (decide (L = R))) ∧ Below w.heap.size w w' := by
  go_enter Try.func39, Try.ntmps39
  go_wp2_with fail
  refine (eqFunc_c A B n m c d L R _ ha hb hn hm hL hR).mono ?_
  rintro e w1 ⟨rfl, hb1⟩
  go_wp2
  go_ret
  exact ⟨rfl, hb1⟩
end Go.Proofs.Ytjgphiialfhdlaa
