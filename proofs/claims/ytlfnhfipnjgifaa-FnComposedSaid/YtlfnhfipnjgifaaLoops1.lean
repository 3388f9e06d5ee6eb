/- Contracts of table functions: loops that only read. The tables hold at most 1048576 slots. -/
import Derived.Test.YtlfnhfipnjgifaaTab
namespace Go.Proofs.Ytlfnhfipnjgifaa
open Go.RowKit
set_option linter.unusedVariables false
set_option maxHeartbeats 1000000

theorem mapped_succ (l : List Sl) (k : Nat) (p r : Int) (h : l[k]? = some (p, r)) : (mapped (l.take (k + 1)) : Int) = mapped (l.take k) + if p = -1 then 0 else 1 := by
  rw [List.take_add_one, h]
  unfold mapped
  by_cases hp : p = -1 <;> simp [List.filter_append, hp]
theorem mapped_le (l : List Sl) : mapped l ≤ l.length := List.length_filter_le _ _
theorem tableBelow_iff (a b : List Sl) : tableBelow a b = true ↔ a.length = b.length ∧ ∀ (k : Nat) (x y : Sl), a[k]? = some x → b[k]? = some y → belowS x y = true := by
  unfold tableBelow
  rw [Bool.and_eq_true, decide_eq_true_eq]
  constructor
  · rintro ⟨h, h2⟩
    refine ⟨h, fun k x y hx hy => ?_⟩
    rw [List.all_eq_true] at h2
    exact h2 (x, y) (List.mem_iff_getElem?.2 ⟨k, by simp [List.getElem?_zip_eq_some, hx, hy]⟩)
  · rintro ⟨h, h2⟩
    refine ⟨h, ?_⟩
    rw [List.all_eq_true]
    rintro ⟨x, y⟩ hm
    obtain ⟨k, hk⟩ := List.mem_iff_getElem?.1 hm
    rw [List.getElem?_zip_eq_some] at hk
    exact h2 k x y hk.1 hk.2
theorem tableOk_iff (l : List Sl) (size pages : Int) : tableOk l size pages = true ↔ (l.length : Int) = size ∧ ∀ (k : Nat) (x : Sl), l[k]? = some x → slotOk x pages = true := by
  unfold tableOk
  rw [Bool.and_eq_true, decide_eq_true_eq, List.all_eq_true]
  constructor
  · rintro ⟨h, h2⟩
    exact ⟨h2, fun k x hx => h x (List.mem_iff_getElem?.2 ⟨k, hx⟩)⟩
  · rintro ⟨h, h2⟩
    refine ⟨fun x hm => ?_, h⟩
    obtain ⟨k, hk⟩ := List.mem_iff_getElem?.1 hm
    exact h2 k x hk
theorem sMapped_c (A : Option Addr) (n c : Nat) (l : List Sl) (w : World) (ha : Rd w 2 A n (slotCells l)) (hn : n ≤ 1048576) :
    Calls Try.prog 51 #[.slice A n c] w fun e w' => e = .returned (.int .i64 (mapped l)) ∧ w = w' := by
  have hl := slots_len ha
  go_enter Try.func51, Try.ntmps51
  go_wp2
  go_loop [3, 4] (fun q i => ∃ k : Nat, k ≤ n ∧ i = .int .i64 k ∧ q = .int .i64 (mapped (l.take k))) (fun _ i => n - (intOf i).toNat)
  case atStart => exact ⟨0, by omega, rfl, by simp [mapped]⟩
  case round =>
    obtain ⟨k, hk, rfl, rfl⟩ := hrel
    by_cases hlt : k < n
    · obtain ⟨b, o, p, r, rfl, hlk, c0, c1⟩ := ha.slot k hlt
      have hle := mapped_le (l.take k)
      have hle2 : (l.take k).length ≤ k := List.length_take_le _ _
      have hms := mapped_succ l k p r hlk
      have H1 := Lib.hid hms
      clear hms hlk hl
      cases hs : (p == -1)
      all_goals
        have hs' : (p != -1) = !(p == -1) := rfl
        rw [hs] at hs'
        go_wp2
        go_round
        case rel => exact ⟨k + 1, by omega, by go_num, by rw [H1.out]; first | (rw [if_pos (by simpa using hs)]; go_num) | (rw [if_neg (by simpa using hs)])⟩
        case measure => simp [intOf]; omega
    · go_wp2
      go_ret
      obtain rfl : k = n := by omega
      rw [List.take_of_length_le (by omega)]
      exact ⟨rfl, rfl⟩
theorem iMapped_c (A : Option Addr) (n c : Nat) (l : List Sl) (w : World) (ha : Rd w 2 A n (slotCells l)) (hn : n ≤ 1048576) :
    Calls Try.prog 43 #[.slice A n c] w fun e w' => e = .returned (.int .i64 (mapped l)) ∧ Below w.heap.size w w' := by
  have hl := slots_len ha
  go_enter Try.func43, Try.ntmps43
  go_wp2
  go_loopw [3, 8] (fun q i wr => ∃ k : Nat, k ≤ n ∧ i = .int .i64 k ∧ q = .int .i64 (mapped (l.take k)) ∧ Below w.heap.size w wr) (fun _ i _ => n - (intOf i).toNat)
  case atStart => exact ⟨0, by omega, rfl, by simp [mapped], Below.refl _ _⟩
  case round =>
    obtain ⟨k, hk, rfl, rfl, hbel⟩ := hrel
    by_cases hlt : k < n
    · obtain ⟨b, o, p, r, rfl, hlk, c0, c1⟩ := (ha.below hbel).slot k hlt
      have hle := mapped_le (l.take k)
      have hle2 : (l.take k).length ≤ k := List.length_take_le _ _
      have hms := mapped_succ l k p r hlk
      have H1 := Lib.hid hms
      clear hms hlk hl
      cases hs : (p == -1)
      all_goals
        have hs' : (p != -1) = !(p == -1) := rfl
        rw [hs] at hs'
        go_wp2
        go_roundw
        case rel => exact ⟨k + 1, by omega, by go_num, by rw [H1.out]; first | (rw [if_pos (by simpa using hs)]; go_num) | (rw [if_neg (by simpa using hs)]), hbel.alloc hbel.size _⟩
        case measure => simp [intOf]; omega
    · go_wp2
      go_ret
      obtain rfl : k = n := by omega
      rw [List.take_of_length_le (by omega)]
      exact ⟨rfl, hbel⟩
end Go.Proofs.Ytlfnhfipnjgifaa
