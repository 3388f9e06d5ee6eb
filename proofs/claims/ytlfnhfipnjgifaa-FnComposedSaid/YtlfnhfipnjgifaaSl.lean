/- Contracts of the laws' own functions on slices of slots: size, copy, compare, mark, hold. The slices hold at most 1048576 slots. -/
import Derived.Test.YtlfnhfipnjgifaaSlot
import Derived.Test.YtlfnhfipnjgifaaMem
import Derived.Outline
namespace Go.Proofs.Ytlfnhfipnjgifaa
open Go.RowKit
set_option linter.unusedVariables false
set_option maxHeartbeats 1000000

theorem eqSlot_v {p r q s : Int} {v : Bool} (h : slEq p r q s = v) (w : World) : Calls Try.prog 31 #[.agg #[.int .i64 p, .int .i64 r], .agg #[.int .i64 q, .int .i64 s]] w fun e w' => e = .returned (.bool v) ∧ Below w.heap.size w w' := by
  subst h; exact eqSlot_c p r q s w
theorem ext_cells {w : World} {p : Addr} {v : Value} (h : w.cell? p = some v) (x : Ext w) : x.w.cell? p = some v := (x.cell (World.block_lt_of_cell? w p h)).trans h
theorem eqSlotS_c (A B : Option Addr) (n m c d : Nat) (l r : List Sl) (w : World) (ha : Rd w 2 A n (slotCells l)) (hb : Rd w 2 B m (slotCells r)) (hn : n ≤ 1048576) (hm : m ≤ 1048576) :
    Calls Try.prog 17 #[.slice A n c, .slice B m d] w fun e w' => e = .returned (.bool (decide (l = r))) ∧ Below w.heap.size w w' := by
  have hl := slots_len ha
  have hr := slots_len hb
  by_cases hnm : n = m
  · subst hnm
    go_enter Try.func17, Try.ntmps17
    go_wp2
    go_loopw [5] (fun i wr => ∃ k : Nat, k ≤ n ∧ i = .int .i64 k ∧ Hid (l.take k = r.take k) ∧ Below w.heap.size w wr) (fun i _ => n - (intOf i).toNat)
    case atStart => exact ⟨0, by omega, rfl, rfl, Below.refl _ _⟩
    case round =>
      obtain ⟨k, hk, rfl, heq, hbel⟩ := hrel
      by_cases hlt : k < n
      · obtain ⟨b, o, p, q, rfl, hlk, c0, c1⟩ := (ha.below hbel).slot k hlt
        obtain ⟨b', o', p', q', rfl, hrk, c2, c3⟩ := (hb.below hbel).slot k hlt
        have f0 := ext_cells c0
        have f1 := ext_cells c1
        have f2 := ext_cells c2
        have f3 := ext_cells c3
        have H1 := Lib.hid hlk
        have H2 := Lib.hid hrk
        have H3 := Lib.hid hl
        have H4 := Lib.hid hr
        clear c0 c1 c2 c3 hlk hrk hl hr
        cases hs : slEq p q p' q'
        all_goals
          have H5 := Lib.hid hs
          clear hs
          go_wp2_with fail
          refine wp_region_ext (by kernel_rfl) (by kernel_rfl) ?_
          repeat (go_big_quiet_step ((go_at_call 31; exact Ext.call _ (eqSlot_v H5.out _))))
          refine wpQuiet_nil ?_
          intro w1 hw'
          have hb1 := Ext.out hw'
          clear hw' f0 f1 f2 f3
          go_wp2
        · go_ret
          refine ⟨?_, hbel.trans (hb1.mono hbel.size)⟩
          have hne : l ≠ r := by
            rintro rfl
            have e := H1.out.symm.trans H2.out
            simp only [Option.some.injEq, Prod.mk.injEq] at e
            have := H5.out
            simp [slEq, e.1, e.2] at this
          simp [hne]
        · go_roundw
          case rel =>
            refine ⟨k + 1, by omega, by go_num, ?_, hbel.trans (hb1.mono hbel.size)⟩
            have e := (slEq_iff _ _ _ _).1 H5.out
            show l.take (k + 1) = r.take (k + 1)
            rw [List.take_add_one, List.take_add_one, heq.out, H1.out, H2.out, e.1, e.2]
          case measure => simp [intOf]; omega
      · go_wp2
        go_ret
        refine ⟨?_, hbel⟩
        obtain rfl : k = n := by omega
        have e := heq.out
        rw [List.take_of_length_le (by omega), List.take_of_length_le (by omega)] at e
        simp [e]
  · have h0 : ((n : Int) == m) = false := by simp; omega
    go_enter Try.func17, Try.ntmps17
    go_wp2
    go_ret
    have hne : l ≠ r := by rintro rfl; omega
    exact ⟨by simp [hne], Below.refl _ _⟩
theorem info_Slot : (Try.prog.info? 41).map (fun i => (i.zero, i.size, i.bytes)) = some (some (.agg #[.int .i64 0, .int .i64 0]), 2, 16) := by kernel_rfl
theorem toSlotS_c (A : Option Addr) (n c : Nat) (l : List Sl) (w : World) (ha : Rd w 2 A n (slotCells l)) (hn : n ≤ 1048576) :
    Calls Try.prog 34 #[.slice A n c] w (Made w 41 2 n (slotCells l)) := by
  have hl := slots_len ha
  obtain ⟨i0, hi, hz0, hz1, hz2⟩ := info_parts info_Slot
  go_enter Try.func34, Try.ntmps34
  go_wp2_with (at_make; refine wpList_make_full _ rfl _ _ 22 rfl w.heap.size 41 i0 (.agg #[.int .i64 0, .int .i64 0]) 2 Try.underlying22 hi hz0 hz1 .i64 .i64 n n n rfl rfl rfl rfl (by rw [hz2]; omega) (by simp only [maxLen]; omega) (Nat.le_refl _) ?_; intro w1 hown hgr)
  have hown' : w1.ownsRow w.heap.size 41 2 (.slice (some ⟨w.heap.size, 0, none⟩) n n) n (slotCells (l.take 0 ++ List.replicate (n - 0) (0, 0))) := by
    have := hown
    rw [show (Value.agg #[.int .i64 0, .int .i64 0]).cells = #[.int .i64 0, .int .i64 0] from rfl, slotCells_zero] at this
    simpa using this
  have hb0 : Below w.heap.size w w1 := (Below.refl _ _).grown hgr (Nat.le_refl _) (fun k hk => by cases hk)
  clear hown hgr hi hz0 hz1 hz2
  go_loopw [4] (fun i wr => ∃ k : Nat, k ≤ n ∧ i = .int .i64 k ∧ wr.ownsRow w.heap.size 41 2 (.slice (some ⟨w.heap.size, 0, none⟩) n n) n (slotCells (l.take k ++ List.replicate (n - k) (0, 0))) ∧ Below w.heap.size w wr) (fun i _ => n - (intOf i).toNat)
  case atStart => exact ⟨0, by omega, rfl, hown', hb0⟩
  case round =>
    obtain ⟨k, hk, rfl, hown, hbel⟩ := hrel
    clear hown' hb0
    by_cases hlt : k < n
    · obtain ⟨b, o, p, q, rfl, hlk, c0, c1⟩ := (ha.below hbel).slot k hlt
      have H1 := Lib.hid hlk
      have H2 := Lib.hid hl
      clear hlk hl
      go_wp2_with fail
      refine (toSlot_c _ _ _).mono ?_
      rintro e w2 ⟨rfl, hb2⟩
      have hown2 := own_kept hown hb2
      obtain ⟨p', q', -, d0, d1, z0, z1⟩ := own_slot_at hown2 k hlt
      have hS := own_slot_set hown2 k hlt p q
      rw [set_fill l n k (p, q) H1.out hlt] at hS
      have hbel2 : Below w.heap.size w w2 := hbel.trans (hb2.mono hbel.size)
      have hbel3 := hbel2.grown hS.2 hbel2.size (fun k hk => by cases hk; exact Nat.le_refl _)
      have HS := Lib.hid hS
      clear hS c0 c1 hown hb2 hown2 hbel hbel2
      go_wp2
      go_roundw
      case rel => exact ⟨k + 1, by omega, by go_num, HS.out.1, hbel3⟩
      case measure => simp [intOf]; omega
    · go_wp2
      go_ret
      obtain rfl : k = n := by omega
      refine Made.mk rfl ?_ hbel
      rw [Nat.sub_self, List.take_of_length_le (by omega)] at hown
      simpa using hown
def Marked (w : World) (base : Nat) (e : TypeId) (A : Option Addr) (n c : Nat) (k : Int) (en : Ending) (w' : World) : Prop :=
  en = .returned (.int .i64 (k + 2 * n)) ∧ w'.ownsRow base e 2 (.slice A n c) n (slotCells (marksSl k n)) ∧ w.grownBy w' (Value.slice A n c).ownBlock
theorem markSlotS_c (A : Option Addr) (n c : Nat) (l : List Sl) (m : Int) (base : Nat) (w : World) (ho : w.ownsRow base 41 2 (.slice A n c) n (slotCells l)) (hn : n ≤ 1048576) (hm : 0 ≤ m) (hm' : m ≤ 4611686018427387904) :
    Calls Try.prog 18 #[.slice A n c, .int .i64 m] w (Marked w base 41 A n c m) := by
  have hl : l.length = n := by have := ho.1; rw [slotCells_length] at this; omega
  go_enter Try.func18, Try.ntmps18
  go_wp2
  go_loopw [1, 5] (fun q i wr => ∃ k : Nat, k ≤ n ∧ i = .int .i64 k ∧ q = .int .i64 (m + 2 * k) ∧ wr.ownsRow base 41 2 (.slice A n c) n (slotCells (marksSl m k ++ l.drop k)) ∧ w.grownBy wr (Value.slice A n c).ownBlock) (fun _ i _ => n - (intOf i).toNat)
  case atStart => exact ⟨0, by omega, rfl, by simp, by simpa [marksSl] using ho, World.grownBy.refl _ _⟩
  case round =>
    obtain ⟨k, hk, rfl, rfl, hown, hgr⟩ := hrel
    by_cases hlt : k < n
    · obtain ⟨g, rfl⟩ := own_at hown (by omega)
      obtain ⟨p', q', -, d0, d1, z0, z1⟩ := own_slot_at hown k hlt
      have hS := own_slot_set hown k hlt (m + 2 * k) (m + 2 * k + 1)
      rw [marks_fill l n k m hl hlt] at hS
      have hgr3 := grown_trans hgr hS.2
      have HS := Lib.hid hS
      have H2 := Lib.hid hl
      have e1 : (wr.setCell ⟨g, k * 2, none⟩ (.int .i64 (m + 2 * k))).cell? ⟨g, k * 2 + 1, none⟩ = some (.int .i64 q') := by
        rw [World.cell?_setCell_other _ _ _ _ (by simp)]; exact d1
      have e2 : (wr.setCell ⟨g, k * 2, none⟩ (.int .i64 (m + 2 * k))).frozen? ⟨g, k * 2 + 1, none⟩ = false := by
        simpa using z1
      clear hS hown hgr d1 z1 hl
      go_wp2
      go_roundw
      case rel => exact ⟨k + 1, by omega, by go_num, by go_num, HS.out.1, hgr3⟩
      case measure => simp [intOf]; omega
    · go_wp2
      go_ret
      obtain rfl : k = n := by omega
      refine ⟨rfl, ?_, hgr⟩
      rw [List.drop_of_length_le (by omega)] at hown
      simpa using hown
theorem heldSlotS_c (A : Option Addr) (n c : Nat) (m : Int) (w : World) (ha : Rd w 2 A n (slotCells (marksSl m n))) (hn : n ≤ 1048576) (hm : 0 ≤ m) (hm' : m ≤ 4611686018427387904) :
    Calls Try.prog 19 #[.slice A n c, .int .i64 m] w fun e w' => e = .returned (.int .i64 (m + 2 * n)) ∧ w = w' := by
  go_enter Try.func19, Try.ntmps19
  go_wp2
  go_loop [1, 5] (fun q i => ∃ k : Nat, k ≤ n ∧ i = .int .i64 k ∧ q = .int .i64 (m + 2 * k)) (fun _ i => n - (intOf i).toNat)
  case atStart => exact ⟨0, by omega, rfl, by simp⟩
  case round =>
    obtain ⟨k, hk, rfl, rfl⟩ := hrel
    by_cases hlt : k < n
    · obtain ⟨b, o, p, q, rfl, hlk, c0, c1⟩ := ha.slot k hlt
      rw [marksSl_at m n k hlt] at hlk
      simp only [Option.some.injEq, Prod.mk.injEq] at hlk
      obtain ⟨rfl, rfl⟩ := hlk
      go_wp2
      go_round
      case rel => exact ⟨k + 1, by omega, by go_num, by go_num⟩
      case measure => simp [intOf]; omega
    · go_wp2
      go_ret
      obtain rfl : k = n := by omega
      exact ⟨rfl, rfl⟩
theorem szSlotS_c (A : Option Addr) (n c : Nat) (left : Int) (w : World) (hn : n ≤ maxLen) (h0 : 0 ≤ left) (h1 : left ≤ 1048576) :
    Calls Try.prog 32 #[.slice A n c, .int .i64 left] w fun e w' => e = .returned (.int .i64 (if left < n then -1 else left - n)) ∧ w = w' := by
  unfold maxLen at hn
  by_cases h : left < n
  · rw [show (if left < (n : Int) then (-1 : Int) else left - n) = -1 from if_pos h]
    go_enter Try.func32, Try.ntmps32
    go_wp2
    go_ret
    exact ⟨rfl, rfl⟩
  · rw [show (if left < (n : Int) then (-1 : Int) else left - n) = left - n from if_neg h]
    go_enter Try.func32, Try.ntmps32
    go_wp2
    go_ret
    exact ⟨rfl, rfl⟩
theorem szSlotS_y (A : Option Addr) (n c : Nat) (left : Int) (w : World) (hn : n ≤ maxLen) (h1 : left ≤ 1048576) (h : (n : Int) ≤ left) :
    Calls Try.prog 32 #[.slice A n c, .int .i64 left] w fun e w' => e = .returned (.int .i64 (left - n)) ∧ w = w' := by
  have := szSlotS_c A n c left w hn (by omega) h1
  rwa [if_neg (by omega)] at this
theorem szSlotS_n (A : Option Addr) (n c : Nat) (left : Int) (w : World) (hn : n ≤ maxLen) (h0 : 0 ≤ left) (h1 : left ≤ 1048576) (h : ¬ (n : Int) ≤ left) :
    Calls Try.prog 32 #[.slice A n c, .int .i64 left] w fun e w' => e = .returned (.int .i64 (-1)) ∧ w = w' := by
  have := szSlotS_c A n c left w hn h0 h1
  rwa [if_pos (by omega)] at this
theorem eqSlotS_t (A B : Option Addr) (n c d : Nat) (l : List Sl) (w : World) (ha : Rd w 2 A n (slotCells l)) (hb : Rd w 2 B n (slotCells l)) (hn : n ≤ 1048576) :
    Calls Try.prog 17 #[.slice A n c, .slice B n d] w fun e w' => e = .returned (.bool true) ∧ Below w.heap.size w w' := by
  have := eqSlotS_c A B n n c d l l w ha hb hn hn
  rwa [decide_eq_true rfl] at this
theorem eqSlot_t (p r : Int) (w : World) : Calls Try.prog 31 #[.agg #[.int .i64 p, .int .i64 r], .agg #[.int .i64 p, .int .i64 r]] w fun e w' => e = .returned (.bool true) ∧ Below w.heap.size w w' :=
  eqSlot_v (by simp [slEq]) w
end Go.Proofs.Ytlfnhfipnjgifaa
