/- Contracts of the laws' own functions on slices of numbers: size, copy, compare, mark, hold. The slices hold at most 1048576 numbers. -/
import Derived.Test.YtlfnhfipnjgifaaQuiet
import Derived.Test.YtlfnhfipnjgifaaMem
import Derived.Test.YtlfnhfipnjgifaaApp
import Derived.Test.YtlfnhfipnjgifaaChecked
import Derived.WalkKit
import Derived.ProofKit
import Derived.Handy
import Derived.Outline
namespace Go.Proofs.Ytlfnhfipnjgifaa
open Go.RowKit
set_option linter.unusedVariables false
set_option maxHeartbeats 1000000

theorem info_int' : (Try.prog.info? 3).map (fun i => (i.zero, i.size, i.bytes)) = some (some (.int .i64 0), 1, 8) := by kernel_rfl
theorem marksInt_length (m : Int) (n : Nat) : (marksInt m n).length = n := by simp [marksInt]
theorem marksInt_at (m : Int) (n i : Nat) (h : i < n) : (marksInt m n)[i]? = some (m + i) := by simp [marksInt, h]
theorem marksInt_fill (l : List Int) (n k : Nat) (m : Int) (hl : l.length = n) (hk : k < n) : (marksInt m k ++ l.drop k).set k (m + k) = marksInt m (k + 1) ++ l.drop (k + 1) := by
  have hm : marksInt m (k + 1) = marksInt m k ++ [m + (k : Int)] := by simp [marksInt, List.range_succ]
  rw [List.set_append_right _ _ (by rw [marksInt_length]; exact Nat.le_refl _), marksInt_length, Nat.sub_self, List.drop_eq_getElem_cons (by omega), List.set_cons_zero, hm]
  simp
theorem ints_fill (l : List Int) (n k : Nat) (p : Int) (hl : l[k]? = some p) (hk : k < n) : (l.take k ++ List.replicate (n - k) (0 : Int)).set k p = l.take (k + 1) ++ List.replicate (n - (k + 1)) 0 := by
  have hlt : k < l.length := (List.getElem?_eq_some_iff.1 hl).1
  have e : n - k = (n - (k + 1)) + 1 := by omega
  rw [e, List.replicate_succ, List.set_append_right _ _ (by simp; omega), List.take_add_one, hl]
  simp [Nat.min_eq_left (Nat.le_of_lt hlt)]
theorem intCells_set (l : List Int) (k : Nat) (p : Int) : (intCells l).set k (.int .i64 p) = intCells (l.set k p) := by simp [intCells, List.map_set]
theorem intCells_length (l : List Int) : (intCells l).length = l.length := by simp [intCells]
theorem own_int_at {w : World} {base n cap g : Nat} {e : TypeId} {l : List Int} (h : w.ownsRow base e 1 (.slice (some ⟨g, 0, none⟩) n cap) n (intCells l)) (k : Nat) (hk : k < n) :
    ∃ p, l[k]? = some p ∧ w.cell? ⟨g, k, none⟩ = some (.int .i64 p) ∧ w.frozen? ⟨g, k, none⟩ = false := by
  have hl : l.length = n := by have := h.1; rw [intCells_length] at this; omega
  refine ⟨l[k], by rw [List.getElem?_eq_getElem (by omega)], (h.cellAt k (by omega)).trans ?_, h.frozenAt _⟩
  simp [intCells, List.getElem?_eq_getElem (show k < l.length by omega)]
theorem own_int_set {w : World} {base n cap g : Nat} {e : TypeId} {l : List Int} (h : w.ownsRow base e 1 (.slice (some ⟨g, 0, none⟩) n cap) n (intCells l)) (k : Nat) (p : Int) :
    (w.setCell ⟨g, k, none⟩ (.int .i64 p)).ownsRow base e 1 (.slice (some ⟨g, 0, none⟩) n cap) n (intCells (l.set k p)) ∧ w.grownBy (w.setCell ⟨g, k, none⟩ (.int .i64 p)) (some g) := by
  have a := h.stored k (.int .i64 p)
  rw [intCells_set] at a
  exact a

theorem eqIntS_c (A B : Option Addr) (n m c d : Nat) (l r : List Int) (w : World) (ha : Rd w 1 A n (intCells l)) (hb : Rd w 1 B m (intCells r)) (hn : n ≤ 1048576) (hm : m ≤ 1048576) :
    Calls Try.prog 36 #[.slice A n c, .slice B m d] w fun e w' => e = .returned (.bool (decide (l = r))) ∧ Below w.heap.size w w' := by
  have hl := ints_len ha
  have hr := ints_len hb
  by_cases hnm : n = m
  · subst hnm
    go_enter Try.func36, Try.ntmps36
    go_wp2
    go_loopw [5] (fun i wr => ∃ k : Nat, k ≤ n ∧ i = .int .i64 k ∧ Hid (l.take k = r.take k) ∧ Below w.heap.size w wr) (fun i _ => n - (intOf i).toNat)
    case atStart => exact ⟨0, by omega, rfl, rfl, Below.refl _ _⟩
    case round =>
      obtain ⟨k, hk, rfl, heq, hbel⟩ := hrel
      by_cases hlt : k < n
      · obtain ⟨b, o, p, rfl, hlk, c0⟩ := (ha.below hbel).int k hlt
        obtain ⟨b', o', p', rfl, hrk, c2⟩ := (hb.below hbel).int k hlt
        have f0 : ∀ x : Ext wr, x.w.cell? _ = _ := fun x => (x.cell (World.block_lt_of_cell? _ _ c0)).trans c0
        have f2 : ∀ x : Ext wr, x.w.cell? _ = _ := fun x => (x.cell (World.block_lt_of_cell? _ _ c2)).trans c2
        have H1 := Lib.hid hlk
        have H2 := Lib.hid hrk
        have H3 := Lib.hid hl
        have H4 := Lib.hid hr
        clear c0 c2 hlk hrk hl hr
        cases hs : (p == p')
        all_goals
          go_wp2_with fail
          refine wp_region_ext (by kernel_rfl) (by kernel_rfl) ?_
          repeat (go_big_quiet_step (fail))
          refine wpQuiet_nil ?_
          intro w1 hw'
          have hb1 := Ext.out hw'
          clear hw' f0 f2
          go_wp2
        · go_ret
          refine ⟨?_, hbel.trans (hb1.mono hbel.size)⟩
          have hne : l ≠ r := by
            rintro rfl
            have e := H1.out.symm.trans H2.out
            simp only [Option.some.injEq] at e
            simp [e] at hs
          simp [hne]
        · go_roundw
          case rel =>
            refine ⟨k + 1, by omega, by go_num, ?_, hbel.trans (hb1.mono hbel.size)⟩
            show l.take (k + 1) = r.take (k + 1)
            rw [List.take_add_one, List.take_add_one, heq.out, H1.out, H2.out, eq_of_beq hs]
          case measure => simp [intOf]; omega
      · go_wp2
        go_ret
        refine ⟨?_, hbel⟩
        obtain rfl : k = n := by omega
        have e := heq.out
        rw [List.take_of_length_le (by omega), List.take_of_length_le (by omega)] at e
        simp [e]
  · have h0 : ((n : Int) == m) = false := by simp; omega
    go_enter Try.func36, Try.ntmps36
    go_wp2
    go_ret
    have hne : l ≠ r := by rintro rfl; omega
    exact ⟨by simp [hne], Below.refl _ _⟩
theorem eqIntS_t (A B : Option Addr) (n c d : Nat) (l : List Int) (w : World) (ha : Rd w 1 A n (intCells l)) (hb : Rd w 1 B n (intCells l)) (hn : n ≤ 1048576) :
    Calls Try.prog 36 #[.slice A n c, .slice B n d] w fun e w' => e = .returned (.bool true) ∧ Below w.heap.size w w' := by
  have := eqIntS_c A B n n c d l l w ha hb hn hn
  rwa [decide_eq_true rfl] at this
theorem markIntS_c (A : Option Addr) (n c : Nat) (l : List Int) (m : Int) (base : Nat) (w : World) (ho : w.ownsRow base 3 1 (.slice A n c) n (intCells l)) (hn : n ≤ 1048576) (hm : 0 ≤ m) (hm' : m ≤ 4611686018427387904) :
    Calls Try.prog 37 #[.slice A n c, .int .i64 m] w fun e w' => e = .returned (.int .i64 (m + n)) ∧ w'.ownsRow base 3 1 (.slice A n c) n (intCells (marksInt m n)) ∧ w.grownBy w' (Value.slice A n c).ownBlock := by
  have hl : l.length = n := by have := ho.1; rw [intCells_length] at this; omega
  go_enter Try.func37, Try.ntmps37
  go_wp2
  go_loopw [1, 5] (fun q i wr => ∃ k : Nat, k ≤ n ∧ i = .int .i64 k ∧ q = .int .i64 (m + k) ∧ wr.ownsRow base 3 1 (.slice A n c) n (intCells (marksInt m k ++ l.drop k)) ∧ w.grownBy wr (Value.slice A n c).ownBlock) (fun _ i _ => n - (intOf i).toNat)
  case atStart => exact ⟨0, by omega, rfl, by simp, by simpa [marksInt] using ho, World.grownBy.refl _ _⟩
  case round =>
    obtain ⟨k, hk, rfl, rfl, hown, hgr⟩ := hrel
    by_cases hlt : k < n
    · obtain ⟨g, rfl⟩ := own_at hown (by omega)
      obtain ⟨p', -, d0, z0⟩ := own_int_at hown k hlt
      have hS := own_int_set hown k (m + k)
      rw [marksInt_fill l n k m hl hlt] at hS
      have hgr3 := grown_trans hgr hS.2
      have HS := Lib.hid hS
      have H2 := Lib.hid hl
      clear hS hown hgr hl
      go_wp2
      go_roundw
      case rel => exact ⟨k + 1, by omega, by go_num, by go_num, HS.out.1, hgr3⟩
      case measure => simp [intOf]; omega
    · go_wp2
      go_ret
      obtain rfl : k = n := by omega
      refine ⟨rfl, ?_, hgr⟩
      rw [List.drop_of_length_le (by omega)] at hown
      simpa using hown
theorem heldIntS_c (A : Option Addr) (n c : Nat) (m : Int) (w : World) (ha : Rd w 1 A n (intCells (marksInt m n))) (hn : n ≤ 1048576) (hm : 0 ≤ m) (hm' : m ≤ 4611686018427387904) :
    Calls Try.prog 38 #[.slice A n c, .int .i64 m] w fun e w' => e = .returned (.int .i64 (m + n)) ∧ w = w' := by
  go_enter Try.func38, Try.ntmps38
  go_wp2
  go_loop [1, 5] (fun q i => ∃ k : Nat, k ≤ n ∧ i = .int .i64 k ∧ q = .int .i64 (m + k)) (fun _ i => n - (intOf i).toNat)
  case atStart => exact ⟨0, by omega, rfl, by simp⟩
  case round =>
    obtain ⟨k, hk, rfl, rfl⟩ := hrel
    by_cases hlt : k < n
    · obtain ⟨b, o, p, rfl, hlk, c0⟩ := ha.int k hlt
      rw [marksInt_at m n k hlt] at hlk
      simp only [Option.some.injEq] at hlk
      subst hlk
      go_wp2
      go_round
      case rel => exact ⟨k + 1, by omega, by go_num, by go_num⟩
      case measure => simp [intOf]; omega
    · go_wp2
      go_ret
      obtain rfl : k = n := by omega
      exact ⟨rfl, rfl⟩
end Go.Proofs.Ytlfnhfipnjgifaa
