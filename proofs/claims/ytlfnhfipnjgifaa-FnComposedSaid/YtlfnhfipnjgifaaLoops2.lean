/- Contracts of table functions: TableOk, TableBelow. The tables hold at most 1048576 slots. -/
import Derived.Test.YtlfnhfipnjgifaaLoops1
namespace Go.Proofs.Ytlfnhfipnjgifaa
open Go.RowKit
set_option linter.unusedVariables false
set_option maxHeartbeats 1000000

theorem sTableOk_c (A : Option Addr) (n c : Nat) (l : List Sl) (size pages : Int) (w : World) (ha : Rd w 2 A n (slotCells l)) (hn : n ≤ 1048576) (hp : pages ≤ 9223372036854775807) :
    Calls Try.prog 82 #[.slice A n c, .int .i64 size, .int .i64 pages] w fun e w' => e = .returned (.bool (tableOk l size pages)) ∧ Below w.heap.size w w' := by
  have hl := slots_len ha
  go_enter Try.func82, Try.ntmps82
  go_wp2
  go_loopw [7] (fun i wr => ∃ k : Nat, k ≤ n ∧ i = .int .i64 k ∧ Hid (∀ (j : Nat) (x : Sl), j < k → l[j]? = some x → slotOk x pages = true) ∧ Below w.heap.size w wr) (fun i _ => n - (intOf i).toNat)
  case atStart => exact ⟨0, by omega, rfl, fun j x hj => absurd hj (by omega), Below.refl _ _⟩
  case round =>
    obtain ⟨k, hk, rfl, hall, hbel⟩ := hrel
    by_cases hlt : k < n
    · obtain ⟨b, o, p, r, rfl, hlk, c0, c1⟩ := (ha.below hbel).slot k hlt
      obtain ⟨v, hv⟩ : ∃ v, slotOk (p, r) pages = v := ⟨_, rfl⟩
      have H1 := Lib.hid hlk
      have H2 := Lib.hid hl
      have HV := Lib.hid hv
      clear hlk hl hv
      go_wp2_with fail
      refine (sSlotOk_c _ _ _ _ hp).mono ?_
      rintro e w1 ⟨rfl, hb1⟩
      rw [HV.out]
      have hz := hb1.size
      try simp only [World.size_alloc] at hz
      have hb2 : Below w.heap.size w w1 := hbel.trans (hb1.mono hbel.size)
      clear hb1 hz
      cases v
      · go_wp2
        go_ret
        refine ⟨?_, hb2⟩
        cases ht : tableOk l size pages
        · rfl
        · have := ((tableOk_iff _ _ _).1 ht).2 k _ H1.out
          rw [HV.out] at this
          cases this
      · go_wp2
        go_roundw
        case rel =>
          refine ⟨k + 1, by omega, by go_num, ?_, hb2⟩
          intro j x hj hx
          by_cases hjk : j < k
          · exact hall.out j x hjk hx
          · obtain rfl : j = k := by omega
            have e := H1.out.symm.trans hx
            simp only [Option.some.injEq] at e
            rw [← e]
            exact HV.out
        case measure => simp [intOf]; omega
    · obtain rfl : k = n := by omega
      have H2 := Lib.hid hl
      clear hl
      cases hsz : ((k : Int) == size)
      · have hfin : tableOk l size pages = false := by
          cases ht : tableOk l size pages
          · rfl
          · have h1 := ((tableOk_iff _ _ _).1 ht).1
            rw [H2.out] at h1
            simp [h1] at hsz
        have HF := Lib.hid hfin
        clear hfin
        go_wp2
        go_ret
        rw [HF.out]
        exact ⟨rfl, hbel⟩
      · have hfin : tableOk l size pages = true := (tableOk_iff _ _ _).2 ⟨by rw [H2.out]; exact eq_of_beq hsz, fun j x hx => hall.out j x (by have := (List.getElem?_eq_some_iff.1 hx).1; have := H2.out; omega) hx⟩
        have HF := Lib.hid hfin
        clear hfin
        go_wp2
        go_ret
        rw [HF.out]
        exact ⟨rfl, hbel⟩
theorem iTableOk_c (A : Option Addr) (n c : Nat) (l : List Sl) (size pages : Int) (w : World) (ha : Rd w 2 A n (slotCells l)) (hn : n ≤ 1048576) (hp : pages ≤ 9223372036854775807) :
    Calls Try.prog 44 #[.slice A n c, .int .i64 size, .int .i64 pages] w fun e w' => e = .returned (.bool (tableOk l size pages)) ∧ Below w.heap.size w w' := by
  have hl := slots_len ha
  go_enter Try.func44, Try.ntmps44
  go_wp2
  go_loopw [11] (fun i wr => ∃ k : Nat, k ≤ n ∧ i = .int .i64 k ∧ Hid (∀ (j : Nat) (x : Sl), j < k → l[j]? = some x → slotOk x pages = true) ∧ Below w.heap.size w wr) (fun i _ => n - (intOf i).toNat)
  case atStart => exact ⟨0, by omega, rfl, fun j x hj => absurd hj (by omega), Below.refl _ _⟩
  case round =>
    obtain ⟨k, hk, rfl, hall, hbel⟩ := hrel
    by_cases hlt : k < n
    · obtain ⟨b, o, p, r, rfl, hlk, c0, c1⟩ := (ha.below hbel).slot k hlt
      obtain ⟨v, hv⟩ : ∃ v, slotOk (p, r) pages = v := ⟨_, rfl⟩
      have H1 := Lib.hid hlk
      have H2 := Lib.hid hl
      have HV := Lib.hid hv
      clear hlk hl hv
      go_wp2_with fail
      refine (iSlotOk_c _ _ _ _ hp).mono ?_
      rintro e w1 ⟨rfl, hb1⟩
      rw [HV.out]
      have hz := hb1.size
      try simp only [World.size_alloc] at hz
      have hb2 : Below w.heap.size w w1 := (hbel.alloc hbel.size _).trans (hb1.mono (by have := hbel.size; simp; omega))
      clear hb1 hz
      cases v
      · go_wp2
        go_ret
        refine ⟨?_, hb2⟩
        cases ht : tableOk l size pages
        · rfl
        · have := ((tableOk_iff _ _ _).1 ht).2 k _ H1.out
          rw [HV.out] at this
          cases this
      · go_wp2
        go_roundw
        case rel =>
          refine ⟨k + 1, by omega, by go_num, ?_, hb2⟩
          intro j x hj hx
          by_cases hjk : j < k
          · exact hall.out j x hjk hx
          · obtain rfl : j = k := by omega
            have e := H1.out.symm.trans hx
            simp only [Option.some.injEq] at e
            rw [← e]
            exact HV.out
        case measure => simp [intOf]; omega
    · obtain rfl : k = n := by omega
      have H2 := Lib.hid hl
      clear hl
      cases hsz : ((k : Int) == size)
      · have hfin : tableOk l size pages = false := by
          cases ht : tableOk l size pages
          · rfl
          · have h1 := ((tableOk_iff _ _ _).1 ht).1
            rw [H2.out] at h1
            simp [h1] at hsz
        have HF := Lib.hid hfin
        clear hfin
        go_wp2
        go_ret
        rw [HF.out]
        exact ⟨rfl, hbel⟩
      · have hfin : tableOk l size pages = true := (tableOk_iff _ _ _).2 ⟨by rw [H2.out]; exact eq_of_beq hsz, fun j x hx => hall.out j x (by have := (List.getElem?_eq_some_iff.1 hx).1; have := H2.out; omega) hx⟩
        have HF := Lib.hid hfin
        clear hfin
        go_wp2
        go_ret
        rw [HF.out]
        exact ⟨rfl, hbel⟩
theorem sBelow_v {p r q s : Int} {v : Bool} (h : belowS (p, r) (q, s) = v) (w : World) : Calls Try.prog 91 #[.agg #[.int .i64 p, .int .i64 r], .agg #[.int .i64 q, .int .i64 s]] w fun e w' => e = .returned (.bool v) ∧ Below w.heap.size w w' := by
  subst h; exact sBelow_c p r q s w
theorem sTableBelow_c (A B : Option Addr) (n m c d : Nat) (l r : List Sl) (w : World) (ha : Rd w 2 A n (slotCells l)) (hb : Rd w 2 B m (slotCells r)) (hn : n ≤ 1048576) (hm : m ≤ 1048576) :
    Calls Try.prog 92 #[.slice A n c, .slice B m d] w fun e w' => e = .returned (.bool (tableBelow l r)) ∧ Below w.heap.size w w' := by
  have hl := slots_len ha
  have hr := slots_len hb
  by_cases hnm : n = m
  · subst hnm
    go_enter Try.func92, Try.ntmps92
    go_wp2
    go_loopw [5] (fun i wr => ∃ k : Nat, k ≤ n ∧ i = .int .i64 k ∧ Hid (∀ (j : Nat) (x y : Sl), j < k → l[j]? = some x → r[j]? = some y → belowS x y = true) ∧ Below w.heap.size w wr) (fun i _ => n - (intOf i).toNat)
    case atStart => exact ⟨0, by omega, rfl, fun j x y hj => absurd hj (by omega), Below.refl _ _⟩
    case round =>
      obtain ⟨k, hk, rfl, hall, hbel⟩ := hrel
      by_cases hlt : k < n
      · obtain ⟨b, o, p, q, rfl, hlk, c0, c1⟩ := (ha.below hbel).slot k hlt
        obtain ⟨b', o', p', q', rfl, hrk, c2, c3⟩ := (hb.below hbel).slot k hlt
        have f0 := ext_cells c0
        have f1 := ext_cells c1
        have f2 := ext_cells c2
        have f3 := ext_cells c3
        have H1 := Lib.hid hlk
        have H2 := Lib.hid hrk
        have H3 := Lib.hid hl
        have H4 := Lib.hid hr
        clear c0 c1 c2 c3 hlk hrk hl hr
        cases hs : belowS (p, q) (p', q')
        all_goals
          have H5 := Lib.hid hs
          clear hs
          go_wp2_with fail
          refine wp_region_ext (by kernel_rfl) (by kernel_rfl) ?_
          repeat (go_big_quiet_step ((go_at_call 91; exact Ext.call _ (sBelow_v H5.out _))))
          refine wpQuiet_nil ?_
          intro w1 hw'
          have hb1 := Ext.out hw'
          clear hw' f0 f1 f2 f3
          go_wp2
        · go_ret
          refine ⟨?_, hbel.trans (hb1.mono hbel.size)⟩
          cases ht : tableBelow l r
          · rfl
          · have := ((tableBelow_iff _ _).1 ht).2 k _ _ H1.out H2.out
            rw [H5.out] at this
            cases this
        · go_roundw
          case rel =>
            refine ⟨k + 1, by omega, by go_num, ?_, hbel.trans (hb1.mono hbel.size)⟩
            intro j x y hj hx hy
            by_cases hjk : j < k
            · exact hall.out j x y hjk hx hy
            · obtain rfl : j = k := by omega
              have e := H1.out.symm.trans hx
              have e' := H2.out.symm.trans hy
              simp only [Option.some.injEq] at e e'
              rw [← e, ← e']
              exact H5.out
          case measure => simp [intOf]; omega
      · obtain rfl : k = n := by omega
        have HF : Hid (tableBelow l r = true) := (tableBelow_iff _ _).2 ⟨by omega, fun j x y hx hy => hall.out j x y (by have := (List.getElem?_eq_some_iff.1 hx).1; omega) hx hy⟩
        go_wp2
        go_ret
        rw [HF.out]
        exact ⟨rfl, hbel⟩
  · have h0 : ((n : Int) == m) = false := by simp; omega
    go_enter Try.func92, Try.ntmps92
    go_wp2
    go_ret
    refine ⟨?_, Below.refl _ _⟩
    cases ht : tableBelow l r
    · rfl
    · have := ((tableBelow_iff _ _).1 ht).1
      omega
theorem iBelow_v {p r q s : Int} {v : Bool} (h : belowS (p, r) (q, s) = v) (w : World) : Calls Try.prog 86 #[.agg #[.int .i64 p, .int .i64 r], .agg #[.int .i64 q, .int .i64 s]] w fun e w' => e = .returned (.bool v) ∧ Below w.heap.size w w' := by
  subst h; exact iBelow_c p r q s w
theorem iTableBelow_c (A B : Option Addr) (n m c d : Nat) (l r : List Sl) (w : World) (ha : Rd w 2 A n (slotCells l)) (hb : Rd w 2 B m (slotCells r)) (hn : n ≤ 1048576) (hm : m ≤ 1048576) :
    Calls Try.prog 57 #[.slice A n c, .slice B m d] w fun e w' => e = .returned (.bool (tableBelow l r)) ∧ Below w.heap.size w w' := by
  have hl := slots_len ha
  have hr := slots_len hb
  by_cases hnm : n = m
  · subst hnm
    go_enter Try.func57, Try.ntmps57
    go_wp2
    go_loopw [13] (fun i wr => ∃ k : Nat, k ≤ n ∧ i = .int .i64 k ∧ Hid (∀ (j : Nat) (x y : Sl), j < k → l[j]? = some x → r[j]? = some y → belowS x y = true) ∧ Below w.heap.size w wr) (fun i _ => n - (intOf i).toNat)
    case atStart => exact ⟨0, by omega, rfl, fun j x y hj => absurd hj (by omega), Below.refl _ _⟩
    case round =>
      obtain ⟨k, hk, rfl, hall, hbel⟩ := hrel
      by_cases hlt : k < n
      · obtain ⟨b, o, p, q, rfl, hlk, c0, c1⟩ := (ha.below hbel).slot k hlt
        obtain ⟨b', o', p', q', rfl, hrk, c2, c3⟩ := (hb.below hbel).slot k hlt
        have f0 := ext_cells c0
        have f1 := ext_cells c1
        have f2 := ext_cells c2
        have f3 := ext_cells c3
        have H1 := Lib.hid hlk
        have H2 := Lib.hid hrk
        have H3 := Lib.hid hl
        have H4 := Lib.hid hr
        clear c0 c1 c2 c3 hlk hrk hl hr
        cases hs : belowS (p, q) (p', q')
        all_goals
          have H5 := Lib.hid hs
          clear hs
          go_wp2_with fail
          refine wp_region_ext (by kernel_rfl) (by kernel_rfl) ?_
          repeat (go_big_quiet_step ((go_at_call 86; exact Ext.call _ (iBelow_v H5.out _))))
          refine wpQuiet_nil ?_
          intro w1 hw'
          have hb1 := Ext.out hw'
          clear hw' f0 f1 f2 f3
          go_wp2
        · go_ret
          refine ⟨?_, hbel.trans (hb1.mono hbel.size)⟩
          cases ht : tableBelow l r
          · rfl
          · have := ((tableBelow_iff _ _).1 ht).2 k _ _ H1.out H2.out
            rw [H5.out] at this
            cases this
        · go_roundw
          case rel =>
            refine ⟨k + 1, by omega, by go_num, ?_, hbel.trans (hb1.mono hbel.size)⟩
            intro j x y hj hx hy
            by_cases hjk : j < k
            · exact hall.out j x y hjk hx hy
            · obtain rfl : j = k := by omega
              have e := H1.out.symm.trans hx
              have e' := H2.out.symm.trans hy
              simp only [Option.some.injEq] at e e'
              rw [← e, ← e']
              exact H5.out
          case measure => simp [intOf]; omega
      · obtain rfl : k = n := by omega
        have HF : Hid (tableBelow l r = true) := (tableBelow_iff _ _).2 ⟨by omega, fun j x y hx hy => hall.out j x y (by have := (List.getElem?_eq_some_iff.1 hx).1; omega) hx hy⟩
        go_wp2
        go_ret
        rw [HF.out]
        exact ⟨rfl, hbel⟩
  · have h0 : ((n : Int) == m) = false := by simp; omega
    go_enter Try.func57, Try.ntmps57
    go_wp2
    go_ret
    refine ⟨?_, Below.refl _ _⟩
    cases ht : tableBelow l r
    · rfl
    · have := ((tableBelow_iff _ _).1 ht).1
      omega
end Go.Proofs.Ytlfnhfipnjgifaa
