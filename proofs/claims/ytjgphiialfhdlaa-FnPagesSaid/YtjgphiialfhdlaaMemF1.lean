/- Contracts of memory functions: PageOk, MemOk, CellAt. Bounds: at most 1048576 rows of at most 1048576 numbers. -/
import Derived.Test.YtjgphiialfhdlaaMxL
import Derived.Test.YtjgphiialfhdlaaInt
namespace Go.Proofs.Ytjgphiialfhdlaa
open Go.RowKit
set_option linter.unusedVariables false
set_option maxHeartbeats 1000000

def pageOk (l : List Int) : Bool := (l.all fun v => inB v 0 99) && decide (l.length = 4)
def memOk (L : List (List Int)) (pages : Int) : Bool := (L.all pageOk) && decide ((L.length : Int) = pages)
def rowAt (L : List (List Int)) (p : Int) : List Int := L.getD p.toNat []
def has2 (L : List (List Int)) (p c : Int) : Bool := hasB p L.length && hasB c (rowAt L p).length
def cellAt (L : List (List Int)) (p c : Int) : Int := if has2 L p c then (rowAt L p).getD c.toNat 0 else 0
def withCell (L : List (List Int)) (p c v : Int) : List (List Int) := if has2 L p c && inB v 0 99 then L.set p.toNat ((rowAt L p).set c.toNat v) else L
def pageAt (L : List (List Int)) (p : Int) : List Int := if hasB p L.length then rowAt L p else [0, 0, 0, 0]
def withPage (L : List (List Int)) (p : Int) (cs : List Int) : List (List Int) := if hasB p L.length && pageOk cs then L.set p.toNat cs else L
def memNew (n : Int) : List (List Int) := List.replicate (brought n 0 24).toNat [0, 0, 0, 0]
theorem pageOk_iff (l : List Int) : pageOk l = true ↔ l.length = 4 ∧ ∀ (k : Nat) (x : Int), l[k]? = some x → inB x 0 99 = true := by
  unfold pageOk
  rw [Bool.and_eq_true, decide_eq_true_eq, List.all_eq_true]
  constructor
  · rintro ⟨h, h2⟩
    exact ⟨h2, fun k x hx => h x (List.mem_iff_getElem?.2 ⟨k, hx⟩)⟩
  · rintro ⟨h, h2⟩
    refine ⟨fun x hm => ?_, h⟩
    obtain ⟨k, hk⟩ := List.mem_iff_getElem?.1 hm
    exact h2 k x hk
theorem memOk_iff (L : List (List Int)) (pages : Int) : memOk L pages = true ↔ (L.length : Int) = pages ∧ ∀ (k : Nat) (x : List Int), L[k]? = some x → pageOk x = true := by
  unfold memOk
  rw [Bool.and_eq_true, decide_eq_true_eq, List.all_eq_true]
  constructor
  · rintro ⟨h, h2⟩
    exact ⟨h2, fun k x hx => h x (List.mem_iff_getElem?.2 ⟨k, hx⟩)⟩
  · rintro ⟨h, h2⟩
    refine ⟨fun x hm => ?_, h⟩
    obtain ⟨k, hk⟩ := List.mem_iff_getElem?.1 hm
    exact h2 k x hk
theorem sPageOk_c (A : Option Addr) (n c : Nat) (l : List Int) (w : World) (ha : Rd w 1 A n (intCells l)) (hn : n ≤ 1048576) :
    Calls Try.prog 15 #[.slice A n c] w fun e w' => e = .returned (.bool (pageOk l)) ∧ w = w' := by
  have hl := ints_len ha
  go_enter Try.func15, Try.ntmps15
  go_wp2
  go_loop [3] (fun i => ∃ k : Nat, k ≤ n ∧ i = .int .i64 k ∧ Hid (∀ (j : Nat) (x : Int), j < k → l[j]? = some x → inB x 0 99 = true)) (fun i => n - (intOf i).toNat)
  case atStart => exact ⟨0, by omega, rfl, fun j x hj => absurd hj (by omega)⟩
  case round =>
    obtain ⟨k, hk, rfl, hall⟩ := hrel
    by_cases hlt : k < n
    · obtain ⟨b, o, p, rfl, hlk, c0⟩ := ha.int k hlt
      obtain ⟨v, hv⟩ : ∃ v, inB p 0 99 = v := ⟨_, rfl⟩
      have H1 := Lib.hid hlk
      have H2 := Lib.hid hl
      have HV := Lib.hid hv
      clear hlk hl hv
      go_wp2_with fail
      refine (l01In_c _ _ _ _).mono ?_
      rintro e w' ⟨rfl, rfl⟩
      rw [HV.out]
      cases v
      · have hfin : pageOk l = false := by
          cases ht : pageOk l
          · rfl
          · have := ((pageOk_iff _).1 ht).2 k _ H1.out
            rw [HV.out] at this
            cases this
        have HF := Lib.hid hfin
        clear hfin
        go_wp2
        go_ret
        rw [HF.out]
        exact ⟨rfl, rfl⟩
      · go_wp2
        go_round
        case rel =>
          refine ⟨k + 1, by omega, by go_num, ?_⟩
          intro j x hj hx
          by_cases hjk : j < k
          · exact hall.out j x hjk hx
          · obtain rfl : j = k := by omega
            have e := H1.out.symm.trans hx
            simp only [Option.some.injEq] at e
            rw [← e]
            exact HV.out
        case measure => simp [intOf]; omega
    · obtain rfl : k = n := by omega
      have H2 := Lib.hid hl
      clear hl
      have hall' : ∀ (j : Nat) (x : Int), l[j]? = some x → inB x 0 99 = true := fun j x hx => hall.out j x (by have := (List.getElem?_eq_some_iff.1 hx).1; have := H2.out; omega) hx
      by_cases h4 : k = 4
      · have HF : Hid (pageOk l = true) := (pageOk_iff _).2 ⟨by rw [H2.out]; exact h4, hall'⟩
        have hk4 : ((k : Int) == 4) = true := by simp; omega
        clear h4
        have HA := Lib.hid hall'
        clear hall'
        go_wp2
        go_ret
        rw [HF.out]
        exact ⟨rfl, rfl⟩
      · have HF : Hid (pageOk l = false) := by
          show pageOk l = false
          cases ht : pageOk l
          · rfl
          · have := ((pageOk_iff _).1 ht).1
            rw [H2.out] at this
            exact absurd this h4
        have hk4 : ((k : Int) == 4) = false := by simp; omega
        clear h4
        have HA := Lib.hid hall'
        clear hall'
        go_wp2
        go_ret
        rw [HF.out]
        exact ⟨rfl, rfl⟩
theorem sPageOk_v {l : List Int} {v : Bool} (h : pageOk l = v) (A : Option Addr) (n c : Nat) (w : World) (ha : Rd w 1 A n (intCells l)) (hn : n ≤ 1048576) :
    Calls Try.prog 15 #[.slice A n c] w fun e w' => e = .returned (.bool v) ∧ w = w' := by
  subst h; exact sPageOk_c A n c l w ha hn
theorem iPageOk_c (A : Option Addr) (n c : Nat) (l : List Int) (w : World) (ha : Rd w 1 A n (intCells l)) (hn : n ≤ 1048576) :
    Calls Try.prog 17 #[.slice A n c] w fun e w' => e = .returned (.bool (pageOk l)) ∧ w = w' := by
  have hl := ints_len ha
  go_enter Try.func17, Try.ntmps17
  go_wp2
  go_loop [7] (fun i => ∃ k : Nat, k ≤ n ∧ i = .int .i64 k ∧ Hid (∀ (j : Nat) (x : Int), j < k → l[j]? = some x → inB x 0 99 = true)) (fun i => n - (intOf i).toNat)
  case atStart => exact ⟨0, by omega, rfl, fun j x hj => absurd hj (by omega)⟩
  case round =>
    obtain ⟨k, hk, rfl, hall⟩ := hrel
    by_cases hlt : k < n
    · obtain ⟨b, o, p, rfl, hlk, c0⟩ := ha.int k hlt
      obtain ⟨v, hv⟩ : ∃ v, inB p 0 99 = v := ⟨_, rfl⟩
      have H1 := Lib.hid hlk
      have H2 := Lib.hid hl
      have HV := Lib.hid hv
      clear hlk hl hv
      go_wp2_with fail
      refine (within_c _ _ _ _).mono ?_
      rintro e w' ⟨rfl, rfl⟩
      rw [HV.out]
      cases v
      · have hfin : pageOk l = false := by
          cases ht : pageOk l
          · rfl
          · have := ((pageOk_iff _).1 ht).2 k _ H1.out
            rw [HV.out] at this
            cases this
        have HF := Lib.hid hfin
        clear hfin
        go_wp2
        go_ret
        rw [HF.out]
        exact ⟨rfl, rfl⟩
      · go_wp2
        go_round
        case rel =>
          refine ⟨k + 1, by omega, by go_num, ?_⟩
          intro j x hj hx
          by_cases hjk : j < k
          · exact hall.out j x hjk hx
          · obtain rfl : j = k := by omega
            have e := H1.out.symm.trans hx
            simp only [Option.some.injEq] at e
            rw [← e]
            exact HV.out
        case measure => simp [intOf]; omega
    · obtain rfl : k = n := by omega
      have H2 := Lib.hid hl
      clear hl
      have hall' : ∀ (j : Nat) (x : Int), l[j]? = some x → inB x 0 99 = true := fun j x hx => hall.out j x (by have := (List.getElem?_eq_some_iff.1 hx).1; have := H2.out; omega) hx
      by_cases h4 : k = 4
      · have HF : Hid (pageOk l = true) := (pageOk_iff _).2 ⟨by rw [H2.out]; exact h4, hall'⟩
        have hk4 : ((k : Int) == 4) = true := by simp; omega
        clear h4
        have HA := Lib.hid hall'
        clear hall'
        go_wp2
        go_ret
        rw [HF.out]
        exact ⟨rfl, rfl⟩
      · have HF : Hid (pageOk l = false) := by
          show pageOk l = false
          cases ht : pageOk l
          · rfl
          · have := ((pageOk_iff _).1 ht).1
            rw [H2.out] at this
            exact absurd this h4
        have hk4 : ((k : Int) == 4) = false := by simp; omega
        clear h4
        have HA := Lib.hid hall'
        clear hall'
        go_wp2
        go_ret
        rw [HF.out]
        exact ⟨rfl, rfl⟩
theorem iPageOk_v {l : List Int} {v : Bool} (h : pageOk l = v) (A : Option Addr) (n c : Nat) (w : World) (ha : Rd w 1 A n (intCells l)) (hn : n ≤ 1048576) :
    Calls Try.prog 17 #[.slice A n c] w fun e w' => e = .returned (.bool v) ∧ w = w' := by
  subst h; exact iPageOk_c A n c l w ha hn
theorem sMemOk_c (A : Option Addr) (n c : Nat) (L : List (List Int)) (pages : Int) (w : World) (ha : Mx w A n L) (hn : n ≤ 1048576) (hr : Rows L) :
    Calls Try.prog 20 #[.slice A n c, .int .i64 pages] w fun e w' => e = .returned (.bool (memOk L pages)) ∧ w = w' := by
  have hl := ha.1
  have HR : Hid (Rows L) := hr
  clear hr
  go_enter Try.func20, Try.ntmps20
  go_wp2
  go_loop [5] (fun i => ∃ k : Nat, k ≤ n ∧ i = .int .i64 k ∧ Hid (∀ (j : Nat) (x : List Int), j < k → L[j]? = some x → pageOk x = true)) (fun i => n - (intOf i).toNat)
  case atStart => exact ⟨0, by omega, rfl, fun j x hj => absurd hj (by omega)⟩
  case round =>
    obtain ⟨k, hk, rfl, hall⟩ := hrel
    by_cases hlt : k < n
    · obtain ⟨b, o, Ai, ci, l, rfl, hlk, c0, hrd⟩ := ha.row k hlt
      have hq := HR.out k l hlk
      obtain ⟨v, hv⟩ : ∃ v, pageOk l = v := ⟨_, rfl⟩
      have H1 := Lib.hid hlk
      have H2 := Lib.hid hl
      have HV := Lib.hid hv
      clear hlk hl hv
      go_wp2_with fail
      refine (sPageOk_v HV.out _ _ _ _ hrd hq).mono ?_
      rintro e w' ⟨rfl, rfl⟩
      cases v
      · have hfin : memOk L pages = false := by
          cases ht : memOk L pages
          · rfl
          · have := ((memOk_iff _ _).1 ht).2 k _ H1.out
            rw [HV.out] at this
            cases this
        have HF := Lib.hid hfin
        clear hfin
        go_wp2
        go_ret
        rw [HF.out]
        exact ⟨rfl, rfl⟩
      · go_wp2
        go_round
        case rel =>
          refine ⟨k + 1, by omega, by go_num, ?_⟩
          intro j x hj hx
          by_cases hjk : j < k
          · exact hall.out j x hjk hx
          · obtain rfl : j = k := by omega
            have e := H1.out.symm.trans hx
            simp only [Option.some.injEq] at e
            rw [← e]
            exact HV.out
        case measure => simp [intOf]; omega
    · obtain rfl : k = n := by omega
      have H2 := Lib.hid hl
      clear hl
      cases hsz : ((k : Int) == pages)
      · have HF : Hid (memOk L pages = false) := by
          show memOk L pages = false
          cases ht : memOk L pages
          · rfl
          · have h1 := ((memOk_iff _ _).1 ht).1
            rw [H2.out] at h1
            simp [h1] at hsz
        go_wp2
        go_ret
        rw [HF.out]
        exact ⟨rfl, rfl⟩
      · have HF : Hid (memOk L pages = true) := (memOk_iff _ _).2 ⟨by rw [H2.out]; exact eq_of_beq hsz, fun j x hx => hall.out j x (by have := (List.getElem?_eq_some_iff.1 hx).1; have := H2.out; omega) hx⟩
        go_wp2
        go_ret
        rw [HF.out]
        exact ⟨rfl, rfl⟩
theorem iMemOk_c (A : Option Addr) (n c : Nat) (L : List (List Int)) (pages : Int) (w : World) (ha : Mx w A n L) (hn : n ≤ 1048576) (hr : Rows L) :
    Calls Try.prog 22 #[.slice A n c, .int .i64 pages] w fun e w' => e = .returned (.bool (memOk L pages)) ∧ w = w' := by
  have hl := ha.1
  have HR : Hid (Rows L) := hr
  clear hr
  go_enter Try.func22, Try.ntmps22
  go_wp2
  go_loop [9] (fun i => ∃ k : Nat, k ≤ n ∧ i = .int .i64 k ∧ Hid (∀ (j : Nat) (x : List Int), j < k → L[j]? = some x → pageOk x = true)) (fun i => n - (intOf i).toNat)
  case atStart => exact ⟨0, by omega, rfl, fun j x hj => absurd hj (by omega)⟩
  case round =>
    obtain ⟨k, hk, rfl, hall⟩ := hrel
    by_cases hlt : k < n
    · obtain ⟨b, o, Ai, ci, l, rfl, hlk, c0, hrd⟩ := ha.row k hlt
      have hq := HR.out k l hlk
      obtain ⟨v, hv⟩ : ∃ v, pageOk l = v := ⟨_, rfl⟩
      have H1 := Lib.hid hlk
      have H2 := Lib.hid hl
      have HV := Lib.hid hv
      clear hlk hl hv
      go_wp2_with fail
      refine (iPageOk_v HV.out _ _ _ _ hrd hq).mono ?_
      rintro e w' ⟨rfl, rfl⟩
      cases v
      · have hfin : memOk L pages = false := by
          cases ht : memOk L pages
          · rfl
          · have := ((memOk_iff _ _).1 ht).2 k _ H1.out
            rw [HV.out] at this
            cases this
        have HF := Lib.hid hfin
        clear hfin
        go_wp2
        go_ret
        rw [HF.out]
        exact ⟨rfl, rfl⟩
      · go_wp2
        go_round
        case rel =>
          refine ⟨k + 1, by omega, by go_num, ?_⟩
          intro j x hj hx
          by_cases hjk : j < k
          · exact hall.out j x hjk hx
          · obtain rfl : j = k := by omega
            have e := H1.out.symm.trans hx
            simp only [Option.some.injEq] at e
            rw [← e]
            exact HV.out
        case measure => simp [intOf]; omega
    · obtain rfl : k = n := by omega
      have H2 := Lib.hid hl
      clear hl
      cases hsz : ((k : Int) == pages)
      · have HF : Hid (memOk L pages = false) := by
          show memOk L pages = false
          cases ht : memOk L pages
          · rfl
          · have h1 := ((memOk_iff _ _).1 ht).1
            rw [H2.out] at h1
            simp [h1] at hsz
        go_wp2
        go_ret
        rw [HF.out]
        exact ⟨rfl, rfl⟩
      · have HF : Hid (memOk L pages = true) := (memOk_iff _ _).2 ⟨by rw [H2.out]; exact eq_of_beq hsz, fun j x hx => hall.out j x (by have := (List.getElem?_eq_some_iff.1 hx).1; have := H2.out; omega) hx⟩
        go_wp2
        go_ret
        rw [HF.out]
        exact ⟨rfl, rfl⟩
theorem rowAt_of {L : List (List Int)} {k : Nat} {l : List Int} (h : L[k]? = some l) : rowAt L (k : Int) = l := by simp [rowAt, h]
theorem l04Has_c (p q : Int) (A : Option Addr) (n c : Nat) (L : List (List Int)) (w : World) (ha : Mx w A n L) (hn : n ≤ 1048576) (hr : Rows L) :
    Calls Try.prog 59 #[.slice A n c, .int .i64 p, .int .i64 q] w fun e w' => e = .returned (.bool (has2 L p q)) ∧ w = w' := by
  have hl := ha.1
  cases h0 : hasB p n
  · have HF : Hid (has2 L p q = false) := by show has2 L p q = false; rw [has2, hl, h0]; rfl
    have H0 := Lib.hid h0
    clear h0 hl
    go_enter Try.func59, Try.ntmps59
    go_wp2_with fail
    refine (l01In_v (v := false) (by rw [inB_has]; exact H0.out) _).mono ?_
    rintro e w' ⟨rfl, rfl⟩
    go_wp2
    go_ret
    rw [HF.out]
    exact ⟨rfl, rfl⟩
  · obtain ⟨h1, h2⟩ : 0 ≤ p ∧ p < n := by simpa [hasB] using h0
    obtain ⟨k, rfl⟩ := Int.eq_ofNat_of_zero_le h1
    obtain ⟨b, o, Ai, ci, l, rfl, hlk, c0, hrd⟩ := ha.row k (by omega)
    have hq := hr k l hlk
    have hlt : k < n := by omega
    have HF : Hid (has2 L (k : Int) q = hasB q l.length) := by show has2 L (k : Int) q = hasB q l.length; rw [has2, hl, h0, rowAt_of hlk]; rfl
    have H0 := Lib.hid h0
    clear h0 h1 h2 hl hlk hr
    go_enter Try.func59, Try.ntmps59
    go_wp2_with fail
    refine (l01In_v (v := true) (by rw [inB_has]; exact H0.out) _).mono ?_
    rintro e w' ⟨rfl, rfl⟩
    go_wp2_with fail
    refine (l01In_c _ _ _ _).mono ?_
    rintro e w' ⟨rfl, rfl⟩
    rw [inB_has, ← HF.out]
    go_wp2
    go_ret
    exact ⟨rfl, rfl⟩
theorem l04Has_v {L : List (List Int)} {p q : Int} {v : Bool} (h : has2 L p q = v) (A : Option Addr) (n c : Nat) (w : World) (ha : Mx w A n L) (hn : n ≤ 1048576) (hr : Rows L) :
    Calls Try.prog 59 #[.slice A n c, .int .i64 p, .int .i64 q] w fun e w' => e = .returned (.bool v) ∧ w = w' := by
  subst h; exact l04Has_c p q A n c L w ha hn hr
theorem has2_true {L : List (List Int)} {p q : Int} (h : has2 L p q = true) : ∃ (k j : Nat) (l : List Int) (x : Int), p = k ∧ q = j ∧ L[k]? = some l ∧ l[j]? = some x := by
  unfold has2 at h
  rw [Bool.and_eq_true] at h
  obtain ⟨h1, h2⟩ := h
  obtain ⟨a, b⟩ : 0 ≤ p ∧ p < L.length := by simpa [hasB] using h1
  obtain ⟨k, rfl⟩ := Int.eq_ofNat_of_zero_le a
  have hk : k < L.length := by omega
  rw [rowAt_of (List.getElem?_eq_getElem hk)] at h2
  obtain ⟨c, d⟩ : 0 ≤ q ∧ q < L[k].length := by simpa [hasB] using h2
  obtain ⟨j, rfl⟩ := Int.eq_ofNat_of_zero_le c
  exact ⟨k, j, _, _, rfl, rfl, List.getElem?_eq_getElem hk, List.getElem?_eq_getElem (by omega)⟩
theorem sCellAt_c (p q : Int) (A : Option Addr) (n c : Nat) (L : List (List Int)) (w : World) (ha : Mx w A n L) (hn : n ≤ 1048576) (hr : Rows L) :
    Calls Try.prog 28 #[.slice A n c, .int .i64 p, .int .i64 q] w fun e w' => e = .returned (.int .i64 (cellAt L p q)) ∧ w = w' := by
  have hl := ha.1
  cases h : has2 L p q
  · have HC : Hid (cellAt L p q = 0) := by show cellAt L p q = 0; rw [cellAt, h]; rfl
    rw [HC.out]
    have HF := Lib.hid h
    have HR : Hid (Rows L) := hr
    clear h hl hr
    go_enter Try.func28, Try.ntmps28
    go_wp2_with fail
    refine (l04Has_v HF.out A n c _ ha hn HR.out).mono ?_
    rintro e w' ⟨rfl, rfl⟩
    go_wp2
    go_ret
    exact ⟨rfl, rfl⟩
  · obtain ⟨k, j, l', x, rfl, rfl, hk, hj⟩ := has2_true h
    have hlt : k < n := by have := (List.getElem?_eq_some_iff.1 hk).1; omega
    obtain ⟨b, o, Ai, ci, l, rfl, hlk, c0, hrd⟩ := ha.row k hlt
    obtain rfl : l' = l := by
      have e := hk.symm.trans hlk
      simpa using e
    have hjl : j < l'.length := (List.getElem?_eq_some_iff.1 hj).1
    obtain ⟨b', o', x', rfl, hx, c1⟩ := hrd.int j hjl
    obtain rfl : x' = x := by
      have e := hx.symm.trans hj
      simpa using e
    have HC : Hid (cellAt L (k : Int) (j : Int) = x') := by
      show cellAt L (k : Int) (j : Int) = x'
      rw [cellAt, h, rowAt_of hk]
      simp [hj]
    rw [HC.out]
    have hq := hr k l' hk
    have HR : Hid (Rows L) := hr
    have HH := Lib.hid h
    have H0 : Hid (hasB (k : Int) n = true) := by show hasB (k : Int) n = true; simp [hasB]; omega
    have H1 : Hid (hasB (j : Int) l'.length = true) := by show hasB (j : Int) l'.length = true; simp [hasB]; omega
    clear h hk hj hlk hx hl hr
    go_enter Try.func28, Try.ntmps28
    go_wp2_with fail
    refine (l04Has_v HH.out _ n c _ ha hn HR.out).mono ?_
    rintro e w' ⟨rfl, rfl⟩
    go_wp2
    go_ret
    exact ⟨rfl, rfl⟩
theorem iCellAt_c (p q : Int) (A : Option Addr) (n c : Nat) (L : List (List Int)) (w : World) (ha : Mx w A n L) (hn : n ≤ 1048576) (hr : Rows L) :
    Calls Try.prog 29 #[.slice A n c, .int .i64 p, .int .i64 q] w fun e w' => e = .returned (.int .i64 (cellAt L p q)) ∧ w = w' := by
  have hl := ha.1
  cases h : has2 L p q
  · have HC : Hid (cellAt L p q = 0) := by show cellAt L p q = 0; rw [cellAt, h]; rfl
    rw [HC.out]
    cases h0 : hasB p n
    · have H0 := Lib.hid h0
      clear h h0 hl hr
      go_enter Try.func29, Try.ntmps29
      go_wp2_with fail
      refine (has_v H0.out _).mono ?_
      rintro e w' ⟨rfl, rfl⟩
      go_wp2
      go_ret
      exact ⟨rfl, rfl⟩
    · obtain ⟨h1, h2⟩ : 0 ≤ p ∧ p < n := by simpa [hasB] using h0
      obtain ⟨k, rfl⟩ := Int.eq_ofNat_of_zero_le h1
      obtain ⟨b, o, Ai, ci, l, rfl, hlk, c0, hrd⟩ := ha.row k (by omega)
      have hlt : k < n := by omega
      have H1 : Hid (hasB q l.length = false) := by
        show hasB q l.length = false
        rw [has2, hl, h0, rowAt_of hlk] at h
        simpa using h
      have H0 := Lib.hid h0
      have hq := hr k l hlk
      clear h h0 h1 h2 hl hlk hr
      go_enter Try.func29, Try.ntmps29
      go_wp2_with fail
      refine (has_v H0.out _).mono ?_
      rintro e w' ⟨rfl, rfl⟩
      go_wp2_with fail
      refine (has_v H1.out _).mono ?_
      rintro e w' ⟨rfl, rfl⟩
      go_wp2
      go_ret
      exact ⟨rfl, rfl⟩
  · obtain ⟨k, j, l', x, rfl, rfl, hk, hj⟩ := has2_true h
    have hlt : k < n := by have := (List.getElem?_eq_some_iff.1 hk).1; omega
    obtain ⟨b, o, Ai, ci, l, rfl, hlk, c0, hrd⟩ := ha.row k hlt
    obtain rfl : l' = l := by
      have e := hk.symm.trans hlk
      simpa using e
    have hjl : j < l'.length := (List.getElem?_eq_some_iff.1 hj).1
    obtain ⟨b', o', x', rfl, hx, c1⟩ := hrd.int j hjl
    obtain rfl : x' = x := by
      have e := hx.symm.trans hj
      simpa using e
    have HC : Hid (cellAt L (k : Int) (j : Int) = x') := by
      show cellAt L (k : Int) (j : Int) = x'
      rw [cellAt, h, rowAt_of hk]
      simp [hj]
    rw [HC.out]
    have hq := hr k l' hk
    have HR : Hid (Rows L) := hr
    have HH := Lib.hid h
    have H0 : Hid (hasB (k : Int) n = true) := by show hasB (k : Int) n = true; simp [hasB]; omega
    have H1 : Hid (hasB (j : Int) l'.length = true) := by show hasB (j : Int) l'.length = true; simp [hasB]; omega
    clear h hk hj hlk hx hl hr
    go_enter Try.func29, Try.ntmps29
    go_wp2_with fail
    refine (has_v H0.out _).mono ?_
    rintro e w' ⟨rfl, rfl⟩
    go_wp2_with fail
    refine (has_v H1.out _).mono ?_
    rintro e w' ⟨rfl, rfl⟩
    go_wp2
    go_ret
    exact ⟨rfl, rfl⟩
end Go.Proofs.Ytjgphiialfhdlaa
