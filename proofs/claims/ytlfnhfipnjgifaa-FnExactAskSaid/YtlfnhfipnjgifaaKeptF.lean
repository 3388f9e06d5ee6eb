/- Contracts of KnownIn and Ask. The slices hold at most 1048576 elements. -/
import Derived.Test.YtlfnhfipnjgifaaKept
import Derived.Test.YtlfnhfipnjgifaaTab
namespace Go.Proofs.Ytlfnhfipnjgifaa
open Go.RowKit
set_option linter.unusedVariables false
set_option linter.unusedSimpArgs false
set_option maxHeartbeats 1000000

def known (l : List Bool) : Nat := (l.filter id).length
theorem known_succ (l : List Bool) (k : Nat) (p : Bool) (h : l[k]? = some p) : (known (l.take (k + 1)) : Int) = known (l.take k) + if p then 1 else 0 := by
  rw [known, known, List.take_add_one, h]
  cases p <;> simp
theorem known_le (l : List Bool) : known l ≤ l.length := List.length_filter_le _ _
theorem sKnownIn_c (A B : Option Addr) (n m c d : Nat) (l : List Bool) (w : World) (ha : Rd w 1 A n (boolCells l)) (hn : n ≤ 1048576) :
    Calls Try.prog 26 #[.agg #[.slice A n c, .slice B m d]] w fun e w' => e = .returned (.int .i64 (known l)) ∧ Below w.heap.size w w' := by
  have hl := bools_len ha
  have h0 : Below w.heap.size w (w.alloc (.cells #[.slice A n c, .slice B m d] 29)) := (Below.refl _ _).alloc (Nat.le_refl _) _
  have p0 := (KBox.new w 29 (.slice A n c) (.slice B m d)).c0
  have hr := ha.below h0
  go_enter Try.func26, Try.ntmps26
  go_wp2
  go_loop [3, 4] (fun q i => ∃ k : Nat, k ≤ n ∧ i = .int .i64 k ∧ q = .int .i64 (known (l.take k))) (fun _ i => n - (intOf i).toNat)
  case atStart => exact ⟨0, by omega, rfl, by simp [known]⟩
  case round =>
    obtain ⟨k, hk, rfl, rfl⟩ := hrel
    by_cases hlt : k < n
    · obtain ⟨b, o, p, rfl, hlk, c0⟩ := hr.boolAt k hlt
      have hle := known_le (l.take k)
      have hle2 : (l.take k).length ≤ k := List.length_take_le _ _
      have hms := known_succ l k p hlk
      have H1 := Lib.hid hms
      clear hms hlk hl
      cases p
      all_goals
        go_wp2
        go_round
        case rel => exact ⟨k + 1, by omega, by go_num, by rw [H1.out]; first | (rw [if_pos rfl]; go_num) | simp⟩
        case measure => simp [intOf]; omega
    · go_wp2
      go_ret
      obtain rfl : k = n := by omega
      rw [List.take_of_length_le (by omega)]
      exact ⟨rfl, h0⟩
theorem iKnownIn_c (A B : Option Addr) (n m c d : Nat) (l : List Bool) (w : World) (ha : Rd w 1 A n (boolCells l)) (hn : n ≤ 1048576) :
    Calls Try.prog 28 #[.agg #[.slice A n c, .slice B m d]] w fun e w' => e = .returned (.int .i64 (known l)) ∧ Below w.heap.size w w' := by
  have hl := bools_len ha
  have h0 : Below w.heap.size w (w.alloc (.cells #[.slice A n c, .slice B m d] 29)) := (Below.refl _ _).alloc (Nat.le_refl _) _
  have p0 := (KBox.new w 29 (.slice A n c) (.slice B m d)).c0
  have hr := ha.below h0
  go_enter Try.func28, Try.ntmps28
  go_wp2
  go_loop [3, 9] (fun q i => ∃ k : Nat, k ≤ n ∧ i = .int .i64 k ∧ q = .int .i64 (known (l.take k))) (fun _ i => n - (intOf i).toNat)
  case atStart => exact ⟨0, by omega, rfl, by simp [known]⟩
  case round =>
    obtain ⟨k, hk, rfl, rfl⟩ := hrel
    by_cases hlt : k < n
    · obtain ⟨b, o, p, rfl, hlk, c0⟩ := hr.boolAt k hlt
      have hle := known_le (l.take k)
      have hle2 : (l.take k).length ≤ k := List.length_take_le _ _
      have hms := known_succ l k p hlk
      have H1 := Lib.hid hms
      clear hms hlk hl
      cases p
      all_goals
        go_wp2
        go_round
        case rel => exact ⟨k + 1, by omega, by go_num, by rw [H1.out]; first | (rw [if_pos rfl]; go_num) | simp⟩
        case measure => simp [intOf]; omega
    · go_wp2
      go_ret
      obtain rfl : k = n := by omega
      rw [List.take_of_length_le (by omega)]
      exact ⟨rfl, h0⟩
def has7 (n m : Nat) (page : Int) : Bool := hasB page n && decide (page < m)
theorem l07Has_c (A B : Option Addr) (n m c d : Nat) (page : Int) (w : World) (hn : n ≤ 1048576) (hm : m ≤ 1048576) :
    Calls Try.prog 103 #[.agg #[.slice A n c, .slice B m d], .int .i64 page] w fun e w' => e = .returned (.bool (has7 n m page)) ∧ Below w.heap.size w w' := by
  have h0 : Below w.heap.size w (w.alloc (.cells #[.slice A n c, .slice B m d] 29)) := (Below.refl _ _).alloc (Nat.le_refl _) _
  have p0 := (KBox.new w 29 (.slice A n c) (.slice B m d)).c0
  have p1 := (KBox.new w 29 (.slice A n c) (.slice B m d)).c1
  cases hh : hasB page n
  · have H0 := Lib.hid hh
    have hv : has7 n m page = false := by simp [has7, hh]
    rw [hv]
    clear hh hv
    go_enter Try.func103, Try.ntmps103
    go_wp2_with (go_at_call 118; refine (l01In_v (v := false) (by rw [inB_has]; exact H0.out) _).mono ?_; rintro e w' ⟨rfl, rfl⟩)
    go_ret
    exact ⟨rfl, h0⟩
  · have H0 := Lib.hid hh
    have hv : has7 n m page = decide (page < m) := by simp [has7, hh]
    rw [hv]
    clear hh hv
    by_cases hp : page < m
    all_goals
      go_enter Try.func103, Try.ntmps103
      go_wp2_with (go_at_call 118; refine (l01In_v (v := true) (by rw [inB_has]; exact H0.out) _).mono ?_; rintro e w' ⟨rfl, rfl⟩)
      go_ret
      exact ⟨by simp [hp], h0⟩
def askS (l : List Bool) (r : List Sl) (page : Int) : Sl × Bool := if has7 l.length r.length page && l.getD page.toNat false then (r.getD page.toNat noSlot, true) else (noSlot, false)
theorem sAsk_1 (A B : Option Addr) (n m c d : Nat) (l : List Bool) (r : List Sl) (page : Int) (w : World) (hn : n ≤ 1048576) (hm : m ≤ 1048576) (hh : has7 n m page = false) :
    Calls Try.prog 29 #[.agg #[.slice A n c, .slice B m d], .int .i64 page] w fun e w' => e = .returned (.tuple #[.agg #[.int .i64 (-1), .int .i64 0], .bool false]) ∧ Below w.heap.size w w' := by
  have h0 : Below w.heap.size w ((w.alloc (.cells #[.slice A n c, .slice B m d] 29)).alloc (.cells #[.int .i64 0, .int .i64 0] 41)) := ((Below.refl _ _).alloc (Nat.le_refl _) _).alloc (by simp) _
  have P := (KBox.new w 29 (.slice A n c) (.slice B m d)).alloc (.cells #[.int .i64 0, .int .i64 0] 41)
  have R := KBox.new (w.alloc (.cells #[.slice A n c, .slice B m d] 29)) 41 (.int .i64 0) (.int .i64 0)
  simp only [World.size_alloc] at R
  have p0 := P.c0
  have p1 := P.c1
  have HP := Lib.hid P
  have HR := Lib.hid R
  clear P R
  have HH := Lib.hid hh
  clear hh
  go_enter Try.func29, Try.ntmps29
  go_wp2_with fail
  refine (l07Has_c A B n m c d page _ hn hm).mono ?_
  rintro e w1 ⟨rfl, hb1⟩
  rw [HH.out]
  have H1 := Lib.hid (h0.trans (hb1.mono h0.size))
  have HR2 := Lib.hid (HR.out.below hb1)
  have P2 := HP.out.below hb1
  have p2 := P2.c0
  have p3 := P2.c1
  clear hb1 P2 p0 p1
  go_wp2_with fail
  refine (sNoSlot_c _).mono ?_
  rintro e w2 ⟨rfl, hb2⟩
  have R2 := HR2.out.below hb2
  have h2 := H1.out.trans (hb2.mono H1.out.size)
  have d0 := R2.c0
  have d1 := R2.c1
  have z0 := R2.z 0
  have z1 := R2.z 1
  clear R2 hb2
  go_wp2
  exact bodyPost_ret (v := .tuple #[.agg #[.int .i64 (-1), .int .i64 0], .bool false]) (by simp [results, Try.results29, go_sem, d0, d1]) rfl ⟨rfl, (h2.setCell (p := ⟨w.heap.size + 1, 0, none⟩) (by show w.heap.size ≤ w.heap.size + 1; omega) _).setCell (p := ⟨w.heap.size + 1, 1, none⟩) (by show w.heap.size ≤ w.heap.size + 1; omega) _⟩
theorem sAsk_2 (A B : Option Addr) (n m c d : Nat) (l : List Bool) (r : List Sl) (k : Nat) (w : World) (ha : Rd w 1 A n (boolCells l)) (hb : Rd w 2 B m (slotCells r)) (hn : n ≤ 1048576) (hm : m ≤ 1048576) (hk : k < n) (hk2 : k < m) (hl : l[k]? = some false) :
    Calls Try.prog 29 #[.agg #[.slice A n c, .slice B m d], .int .i64 (k : Int)] w fun e w' => e = .returned (.tuple #[.agg #[.int .i64 (-1), .int .i64 0], .bool false]) ∧ Below w.heap.size w w' := by
  have h0 : Below w.heap.size w ((w.alloc (.cells #[.slice A n c, .slice B m d] 29)).alloc (.cells #[.int .i64 0, .int .i64 0] 41)) := ((Below.refl _ _).alloc (Nat.le_refl _) _).alloc (by simp) _
  have P := (KBox.new w 29 (.slice A n c) (.slice B m d)).alloc (.cells #[.int .i64 0, .int .i64 0] 41)
  have R := KBox.new (w.alloc (.cells #[.slice A n c, .slice B m d] 29)) 41 (.int .i64 0) (.int .i64 0)
  simp only [World.size_alloc] at R
  have p0 := P.c0
  have p1 := P.c1
  have HP := Lib.hid P
  have HR := Lib.hid R
  clear P R
  have HH : Hid (has7 n m (k : Int) = true) := Lib.hid (by simp [has7, hasB]; omega)
  obtain ⟨b, o, v, rfl, hv, cv⟩ := ha.boolAt k hk
  obtain rfl : v = false := by rw [hl] at hv; injection hv with hv; exact hv.symm
  have cb := (h0.cell (World.block_lt_of_cell? _ _ cv)).trans cv
  clear ha hb hl hv cv
  go_enter Try.func29, Try.ntmps29
  go_wp2_with fail
  refine (l07Has_c _ _ n m c d (k : Int) _ hn hm).mono ?_
  rintro e w1 ⟨rfl, hb1⟩
  rw [HH.out]
  have H1 := Lib.hid (h0.trans (hb1.mono h0.size))
  have HR2 := Lib.hid (HR.out.below hb1)
  have P2 := HP.out.below hb1
  have p2 := P2.c0
  have p3 := P2.c1
  have cb2 := below_keep hb1 _ _ cb
  clear hb1 P2 p0 p1 cb
  go_wp2_with fail
  refine (sNoSlot_c _).mono ?_
  rintro e w2 ⟨rfl, hb2⟩
  have R2 := HR2.out.below hb2
  have h2 := H1.out.trans (hb2.mono H1.out.size)
  have d0 := R2.c0
  have d1 := R2.c1
  have z0 := R2.z 0
  have z1 := R2.z 1
  clear R2 hb2
  go_wp2
  exact bodyPost_ret (v := .tuple #[.agg #[.int .i64 (-1), .int .i64 0], .bool false]) (by simp [results, Try.results29, go_sem, d0, d1]) rfl ⟨rfl, (h2.setCell (p := ⟨w.heap.size + 1, 0, none⟩) (by show w.heap.size ≤ w.heap.size + 1; omega) _).setCell (p := ⟨w.heap.size + 1, 1, none⟩) (by show w.heap.size ≤ w.heap.size + 1; omega) _⟩
theorem sAsk_3 (A B : Option Addr) (n m c d : Nat) (l : List Bool) (r : List Sl) (k : Nat) (w : World) (ha : Rd w 1 A n (boolCells l)) (hb : Rd w 2 B m (slotCells r)) (hn : n ≤ 1048576) (hm : m ≤ 1048576) (hk : k < n) (hk2 : k < m) (p q : Int) (hl : l[k]? = some true) (hr : r[k]? = some (p, q)) :
    Calls Try.prog 29 #[.agg #[.slice A n c, .slice B m d], .int .i64 (k : Int)] w fun e w' => e = .returned (.tuple #[.agg #[.int .i64 p, .int .i64 q], .bool true]) ∧ Below w.heap.size w w' := by
  have h0 : Below w.heap.size w ((w.alloc (.cells #[.slice A n c, .slice B m d] 29)).alloc (.cells #[.int .i64 0, .int .i64 0] 41)) := ((Below.refl _ _).alloc (Nat.le_refl _) _).alloc (by simp) _
  have P := (KBox.new w 29 (.slice A n c) (.slice B m d)).alloc (.cells #[.int .i64 0, .int .i64 0] 41)
  have R := KBox.new (w.alloc (.cells #[.slice A n c, .slice B m d] 29)) 41 (.int .i64 0) (.int .i64 0)
  simp only [World.size_alloc] at R
  have p0 := P.c0
  have p1 := P.c1
  have HP := Lib.hid P
  have HR := Lib.hid R
  clear P R
  have HH : Hid (has7 n m (k : Int) = true) := Lib.hid (by simp [has7, hasB]; omega)
  obtain ⟨b, o, v, rfl, hv, cv⟩ := ha.boolAt k hk
  obtain rfl : v = true := by rw [hl] at hv; injection hv with hv; exact hv.symm
  have cb := (h0.cell (World.block_lt_of_cell? _ _ cv)).trans cv
  obtain ⟨b2, o2, p', q', rfl, hs, cs0, cs1⟩ := hb.slot k hk2
  obtain ⟨rfl, rfl⟩ : p' = p ∧ q' = q := by rw [hr] at hs; simpa using hs.symm
  have cb3 := (h0.cell (World.block_lt_of_cell? _ _ cs0)).trans cs0
  have cb4 := (h0.cell (World.block_lt_of_cell? _ _ cs1)).trans cs1
  clear ha hb hl hv cv hr hs cs0 cs1
  go_enter Try.func29, Try.ntmps29
  go_wp2_with fail
  refine (l07Has_c _ _ n m c d (k : Int) _ hn hm).mono ?_
  rintro e w1 ⟨rfl, hb1⟩
  rw [HH.out]
  have H1 := Lib.hid (h0.trans (hb1.mono h0.size))
  have HR2 := Lib.hid (HR.out.below hb1)
  have P2 := HP.out.below hb1
  have p2 := P2.c0
  have p3 := P2.c1
  have cb2 := below_keep hb1 _ _ cb
  have cb5 := below_keep hb1 _ _ cb3
  have cb6 := below_keep hb1 _ _ cb4
  clear hb1 P2 p0 p1 cb cb3 cb4
  have d0 := HR2.out.c0
  have d1 := HR2.out.c1
  have z0 := HR2.out.z 0
  have z1 := HR2.out.z 1
  go_wp2
  exact bodyPost_ret (v := .tuple #[.agg #[.int .i64 p', .int .i64 q'], .bool true]) (by simp [results, Try.results29, go_sem, d0, d1]) rfl ⟨rfl, (H1.out.setCell (p := ⟨w.heap.size + 1, 0, none⟩) (by show w.heap.size ≤ w.heap.size + 1; omega) _).setCell (p := ⟨w.heap.size + 1, 1, none⟩) (by show w.heap.size ≤ w.heap.size + 1; omega) _⟩
theorem sAsk_c {v : Sl × Bool} (A B : Option Addr) (n m c d : Nat) (l : List Bool) (r : List Sl) (page : Int) (w : World) (ha : Rd w 1 A n (boolCells l)) (hb : Rd w 2 B m (slotCells r)) (hn : n ≤ 1048576) (hm : m ≤ 1048576) (hv : askS l r page = v) :
    Calls Try.prog 29 #[.agg #[.slice A n c, .slice B m d], .int .i64 page] w fun e w' => e = .returned (.tuple #[.agg #[.int .i64 v.1.1, .int .i64 v.1.2], .bool v.2]) ∧ Below w.heap.size w w' := by
  subst hv
  have hl := bools_len ha
  have hr := slots_len hb
  cases hh : has7 n m page
  · have e : askS l r page = (noSlot, false) := by simp [askS, hl, hr, hh]
    rw [e]
    exact sAsk_1 A B n m c d l r page w hn hm hh
  · obtain ⟨⟨h1, h2⟩, h3⟩ : (0 ≤ page ∧ page < n) ∧ page < m := by simpa [has7, hasB] using hh
    obtain ⟨k, rfl⟩ := Int.eq_ofNat_of_zero_le h1
    have hk : k < l.length := by omega
    have hk2 : k < r.length := by omega
    cases hb1 : l[k]
    · have e : askS l r (k : Int) = (noSlot, false) := by simp [askS, hl, hr, hh, List.getD_eq_getElem?_getD, List.getElem?_eq_getElem hk, hb1]
      rw [e]
      exact sAsk_2 A B n m c d l r k w ha hb hn hm (by omega) (by omega) (by rw [List.getElem?_eq_getElem hk, hb1])
    · have e : askS l r (k : Int) = (r[k], true) := by simp [askS, hl, hr, hh, List.getD_eq_getElem?_getD, List.getElem?_eq_getElem hk, List.getElem?_eq_getElem hk2, hb1]
      rw [e]
      exact sAsk_3 A B n m c d l r k w ha hb hn hm (by omega) (by omega) _ _ (by rw [List.getElem?_eq_getElem hk, hb1]) (by rw [List.getElem?_eq_getElem hk2])
theorem iAsk_1 (A B : Option Addr) (n m c d : Nat) (l : List Bool) (r : List Sl) (page : Int) (w : World) (hn : n ≤ 1048576) (hm : m ≤ 1048576) (va vb : Bool) (hva : hasB page n = va) (hvb : hasB page m = vb) (hv : va = false ∨ va = true ∧ vb = false) :
    Calls Try.prog 30 #[.agg #[.slice A n c, .slice B m d], .int .i64 page] w fun e w' => e = .returned (.tuple #[.agg #[.int .i64 (-1), .int .i64 0], .bool false]) ∧ Below w.heap.size w w' := by
  have h0 : Below w.heap.size w ((w.alloc (.cells #[.slice A n c, .slice B m d] 29)).alloc (.cells #[.int .i64 0, .int .i64 0] 41)) := ((Below.refl _ _).alloc (Nat.le_refl _) _).alloc (by simp) _
  have P := (KBox.new w 29 (.slice A n c) (.slice B m d)).alloc (.cells #[.int .i64 0, .int .i64 0] 41)
  have R := KBox.new (w.alloc (.cells #[.slice A n c, .slice B m d] 29)) 41 (.int .i64 0) (.int .i64 0)
  simp only [World.size_alloc] at R
  have p0 := P.c0
  have p1 := P.c1
  have HP := Lib.hid P
  have HR := Lib.hid R
  clear P R
  have HA := Lib.hid hva
  have HB := Lib.hid hvb
  clear hva hvb
  rcases hv with rfl | ⟨rfl, rfl⟩
  all_goals
    go_enter Try.func30, Try.ntmps30
    go_wp2_with (first | (go_at_call 104; first | ((with_reducible refine (has_v HA.out _).mono ?_); rintro e w' ⟨rfl, rfl⟩) | ((with_reducible refine (has_v HB.out _).mono ?_); rintro e w' ⟨rfl, rfl⟩)) | fail)
    have H1 := Lib.hid h0
    have HR2 := HR
    refine (iNoSlot_c _).mono ?_
    rintro e w2 ⟨rfl, hb2⟩
    have R2 := HR2.out.below hb2
    have h2 := H1.out.trans (hb2.mono H1.out.size)
    have d0 := R2.c0
    have d1 := R2.c1
    have z0 := R2.z 0
    have z1 := R2.z 1
    clear R2 hb2
    go_wp2
    exact bodyPost_ret (v := .tuple #[.agg #[.int .i64 (-1), .int .i64 0], .bool false]) (by simp [results, Try.results30, go_sem, d0, d1]) rfl ⟨rfl, (h2.setCell (p := ⟨w.heap.size + 1, 0, none⟩) (by show w.heap.size ≤ w.heap.size + 1; omega) _).setCell (p := ⟨w.heap.size + 1, 1, none⟩) (by show w.heap.size ≤ w.heap.size + 1; omega) _⟩
theorem iAsk_2 (A B : Option Addr) (n m c d : Nat) (l : List Bool) (r : List Sl) (k : Nat) (w : World) (ha : Rd w 1 A n (boolCells l)) (hb : Rd w 2 B m (slotCells r)) (hn : n ≤ 1048576) (hm : m ≤ 1048576) (hk : k < n) (hk2 : k < m) (hl : l[k]? = some false) :
    Calls Try.prog 30 #[.agg #[.slice A n c, .slice B m d], .int .i64 (k : Int)] w fun e w' => e = .returned (.tuple #[.agg #[.int .i64 (-1), .int .i64 0], .bool false]) ∧ Below w.heap.size w w' := by
  have h0 : Below w.heap.size w ((w.alloc (.cells #[.slice A n c, .slice B m d] 29)).alloc (.cells #[.int .i64 0, .int .i64 0] 41)) := ((Below.refl _ _).alloc (Nat.le_refl _) _).alloc (by simp) _
  have P := (KBox.new w 29 (.slice A n c) (.slice B m d)).alloc (.cells #[.int .i64 0, .int .i64 0] 41)
  have R := KBox.new (w.alloc (.cells #[.slice A n c, .slice B m d] 29)) 41 (.int .i64 0) (.int .i64 0)
  simp only [World.size_alloc] at R
  have p0 := P.c0
  have p1 := P.c1
  have HP := Lib.hid P
  have HR := Lib.hid R
  clear P R
  have HA : Hid (hasB (k : Int) n = true) := Lib.hid (by simp [hasB]; omega)
  have HB : Hid (hasB (k : Int) m = true) := Lib.hid (by simp [hasB]; omega)
  obtain ⟨b, o, v, rfl, hv, cv⟩ := ha.boolAt k hk
  obtain rfl : v = false := by rw [hl] at hv; injection hv with hv; exact hv.symm
  have cb := (h0.cell (World.block_lt_of_cell? _ _ cv)).trans cv
  clear ha hb hl hv cv
  go_enter Try.func30, Try.ntmps30
  go_wp2_with (first | (go_at_call 104; first | ((with_reducible refine (has_v HA.out _).mono ?_); rintro e w' ⟨rfl, rfl⟩) | ((with_reducible refine (has_v HB.out _).mono ?_); rintro e w' ⟨rfl, rfl⟩)) | fail)
  have H1 := Lib.hid h0
  have HR2 := HR
  refine (iNoSlot_c _).mono ?_
  rintro e w2 ⟨rfl, hb2⟩
  have R2 := HR2.out.below hb2
  have h2 := H1.out.trans (hb2.mono H1.out.size)
  have d0 := R2.c0
  have d1 := R2.c1
  have z0 := R2.z 0
  have z1 := R2.z 1
  clear R2 hb2
  go_wp2
  exact bodyPost_ret (v := .tuple #[.agg #[.int .i64 (-1), .int .i64 0], .bool false]) (by simp [results, Try.results30, go_sem, d0, d1]) rfl ⟨rfl, (h2.setCell (p := ⟨w.heap.size + 1, 0, none⟩) (by show w.heap.size ≤ w.heap.size + 1; omega) _).setCell (p := ⟨w.heap.size + 1, 1, none⟩) (by show w.heap.size ≤ w.heap.size + 1; omega) _⟩
theorem iAsk_3 (A B : Option Addr) (n m c d : Nat) (l : List Bool) (r : List Sl) (k : Nat) (w : World) (ha : Rd w 1 A n (boolCells l)) (hb : Rd w 2 B m (slotCells r)) (hn : n ≤ 1048576) (hm : m ≤ 1048576) (hk : k < n) (hk2 : k < m) (p q : Int) (hl : l[k]? = some true) (hr : r[k]? = some (p, q)) :
    Calls Try.prog 30 #[.agg #[.slice A n c, .slice B m d], .int .i64 (k : Int)] w fun e w' => e = .returned (.tuple #[.agg #[.int .i64 p, .int .i64 q], .bool true]) ∧ Below w.heap.size w w' := by
  have h0 : Below w.heap.size w ((w.alloc (.cells #[.slice A n c, .slice B m d] 29)).alloc (.cells #[.int .i64 0, .int .i64 0] 41)) := ((Below.refl _ _).alloc (Nat.le_refl _) _).alloc (by simp) _
  have P := (KBox.new w 29 (.slice A n c) (.slice B m d)).alloc (.cells #[.int .i64 0, .int .i64 0] 41)
  have R := KBox.new (w.alloc (.cells #[.slice A n c, .slice B m d] 29)) 41 (.int .i64 0) (.int .i64 0)
  simp only [World.size_alloc] at R
  have p0 := P.c0
  have p1 := P.c1
  have HP := Lib.hid P
  have HR := Lib.hid R
  clear P R
  have HA : Hid (hasB (k : Int) n = true) := Lib.hid (by simp [hasB]; omega)
  have HB : Hid (hasB (k : Int) m = true) := Lib.hid (by simp [hasB]; omega)
  obtain ⟨b, o, v, rfl, hv, cv⟩ := ha.boolAt k hk
  obtain rfl : v = true := by rw [hl] at hv; injection hv with hv; exact hv.symm
  have cb := (h0.cell (World.block_lt_of_cell? _ _ cv)).trans cv
  obtain ⟨b2, o2, p', q', rfl, hs, cs0, cs1⟩ := hb.slot k hk2
  obtain ⟨rfl, rfl⟩ : p' = p ∧ q' = q := by rw [hr] at hs; simpa using hs.symm
  have cb3 := (h0.cell (World.block_lt_of_cell? _ _ cs0)).trans cs0
  have cb4 := (h0.cell (World.block_lt_of_cell? _ _ cs1)).trans cs1
  clear ha hb hl hv cv hr hs cs0 cs1
  go_enter Try.func30, Try.ntmps30
  have d0 := HR.out.c0
  have d1 := HR.out.c1
  have z0 := HR.out.z 0
  have z1 := HR.out.z 1
  go_wp2_with (go_at_call 104; first | ((with_reducible refine (has_v HA.out _).mono ?_); rintro e w' ⟨rfl, rfl⟩) | ((with_reducible refine (has_v HB.out _).mono ?_); rintro e w' ⟨rfl, rfl⟩))
  exact bodyPost_ret (v := .tuple #[.agg #[.int .i64 p', .int .i64 q'], .bool true]) (by simp [results, Try.results30, go_sem, d0, d1]) rfl ⟨rfl, by go_grown⟩
theorem iAsk_c {v : Sl × Bool} (A B : Option Addr) (n m c d : Nat) (l : List Bool) (r : List Sl) (page : Int) (w : World) (ha : Rd w 1 A n (boolCells l)) (hb : Rd w 2 B m (slotCells r)) (hn : n ≤ 1048576) (hm : m ≤ 1048576) (hv : askS l r page = v) :
    Calls Try.prog 30 #[.agg #[.slice A n c, .slice B m d], .int .i64 page] w fun e w' => e = .returned (.tuple #[.agg #[.int .i64 v.1.1, .int .i64 v.1.2], .bool v.2]) ∧ Below w.heap.size w w' := by
  subst hv
  have hl := bools_len ha
  have hr := slots_len hb
  cases hh : has7 n m page
  · have e : askS l r page = (noSlot, false) := by simp [askS, hl, hr, hh]
    rw [e]
    refine iAsk_1 A B n m c d l r page w hn hm _ _ rfl rfl ?_
    simp only [has7] at hh
    cases h1 : hasB page n
    · exact .inl rfl
    · rw [h1] at hh
      refine .inr ⟨rfl, ?_⟩
      simp [hasB] at h1 hh ⊢
      omega
  · obtain ⟨⟨h1, h2⟩, h3⟩ : (0 ≤ page ∧ page < n) ∧ page < m := by simpa [has7, hasB] using hh
    obtain ⟨k, rfl⟩ := Int.eq_ofNat_of_zero_le h1
    have hk : k < l.length := by omega
    have hk2 : k < r.length := by omega
    cases hb1 : l[k]
    · have e : askS l r (k : Int) = (noSlot, false) := by simp [askS, hl, hr, hh, List.getD_eq_getElem?_getD, List.getElem?_eq_getElem hk, hb1]
      rw [e]
      exact iAsk_2 A B n m c d l r k w ha hb hn hm (by omega) (by omega) (by rw [List.getElem?_eq_getElem hk, hb1])
    · have e : askS l r (k : Int) = (r[k], true) := by simp [askS, hl, hr, hh, List.getD_eq_getElem?_getD, List.getElem?_eq_getElem hk, List.getElem?_eq_getElem hk2, hb1]
      rw [e]
      exact iAsk_3 A B n m c d l r k w ha hb hn hm (by omega) (by omega) _ _ (by rw [List.getElem?_eq_getElem hk, hb1]) (by rw [List.getElem?_eq_getElem hk2])
end Go.Proofs.Ytlfnhfipnjgifaa
