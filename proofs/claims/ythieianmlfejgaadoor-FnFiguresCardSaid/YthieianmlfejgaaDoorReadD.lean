/- Contracts of ReadDecimal. Conditions: the text holds at most 1048576 bytes; strconv's variables are as the program's text lays them. -/
import Derived.Test.YthieianmlfejgaaDoorLaid
import Derived.Lib.Atoi
import Derived.Lib.AtoiBound
namespace Go.Proofs.YthieianmlfejgaaDoor
open Go.RowKit Go.WideShapes
set_option linter.unusedVariables false
set_option linter.unusedSimpArgs false
set_option maxHeartbeats 1000000

/-- The number that a text spells, as Decimal spells it. -/
def readDec (l : List UInt8) : Option Int :=
  if l.length ≤ 10 then
    match Lib.decFrom 0 l with
    | some m => if m ≤ 1000000000 ∧ Lib.itoa (m : Int) = l then some (m : Int) else none
    | none => none
  else none
def rdV (l : List UInt8) : Value := match readDec l with
  | some n => .tuple #[.int .i64 n, .bool true]
  | none => .tuple #[.int .i64 0, .bool false]
theorem readDec_none {l : List UInt8} (h : Lib.decFrom 0 l = none) : readDec l = none := by
  unfold readDec
  split
  · rw [h]
  · rfl
theorem readDec_long {l : List UInt8} (h : 10 < l.length) : readDec l = none := by
  unfold readDec
  rw [if_neg (by omega)]
theorem readDec_of {l : List UInt8} {m : Nat} (hl : l.length ≤ 10) (h : Lib.decFrom 0 l = some m) : readDec l = if m ≤ 1000000000 ∧ Lib.itoa (m : Int) = l then some (m : Int) else none := by
  unfold readDec
  rw [if_pos hl, h]
theorem decFrom_bad {l : List UInt8} : ∀ {acc k : Nat} {b : UInt8}, l[k]? = some b → Lib.digitVal b = none → Lib.decFrom acc l = none := by
  intro acc k b hb hd
  rcases hh : Lib.decFrom acc l with _ | n
  · rfl
  · obtain ⟨d, hd2⟩ := Lib.digit_of_decFrom l acc n hh k b hb
    rw [hd] at hd2
    cases hd2
theorem digit_bytes (u : Nat) : ∀ b ∈ Lib.decDigits u, 48 ≤ b.toNat ∧ b.toNat ≤ 57 := by
  induction u using Nat.strongRecOn with
  | _ u ih =>
    intro b hb
    have hd : ∀ r, r < 10 → 48 ≤ (UInt8.ofNat (48 + r)).toNat ∧ (UInt8.ofNat (48 + r)).toNat ≤ 57 := fun r hr => by
      have := byte_digit r hr
      omega
    rw [Lib.decDigits] at hb
    split at hb
    · rename_i h
      simp only [List.mem_singleton] at hb
      subst hb
      exact hd u h
    · rename_i h
      rcases List.mem_append.1 hb with hb | hb
      · exact ih (u / 10) (by omega) b hb
      · simp only [List.mem_singleton] at hb
        subst hb
        exact hd _ (by omega)
theorem itoa_nat (m : Nat) : Lib.itoa (m : Int) = Lib.decDigits m := by
  unfold Lib.itoa
  rw [if_neg (by omega)]
  rfl
theorem decDigits_ne (u : Nat) : Lib.decDigits u ≠ [] := by
  rw [Lib.decDigits]
  split
  · simp
  · simp
theorem atoi_of_read {l : List UInt8} {n : Int} (h : readDec l = some n) : Lib.atoi l = some n ∧ Lib.itoa n = l ∧ 0 ≤ n ∧ n ≤ 1000000000 := by
  unfold readDec at h
  split at h
  · rcases hd : Lib.decFrom 0 l with _ | m
    · rw [hd] at h; cases h
    · rw [hd] at h
      simp only at h
      split at h
      · rename_i hc
        injection h with h
        subst h
        refine ⟨?_, hc.2, by omega, by omega⟩
        have hl : l ≠ [] := by rw [← hc.2, itoa_nat]; exact decDigits_ne m
        rcases l with _ | ⟨b, r⟩
        · exact absurd rfl hl
        · have hb := digit_bytes m b (by rw [← itoa_nat, hc.2]; exact List.mem_cons_self)
          have h45 : ¬ (b == 45) = true := by intro he; have := eq_of_beq he; subst this; simp at hb
          have h43 : ¬ (b == 43) = true := by intro he; have := eq_of_beq he; subst this; simp at hb
          simp only [Lib.atoi, h45, h43, if_false, Bool.false_eq_true]
          simp [Lib.decNat, hd]
      · cases h
  · cases h
theorem read_of_atoi {l : List UInt8} {n : Int} (hl : l.length ≤ 10) (h : Lib.atoi l = some n) (hi : Lib.itoa n = l) (h0 : 0 ≤ n) (h1 : n ≤ 1000000000) : readDec l = some n := by
  obtain ⟨u, rfl⟩ := Int.eq_ofNat_of_zero_le h0
  obtain ⟨b0, r, rfl, hc⟩ := Lib.atoi_cases h
  have hb := digit_bytes u b0 (by rw [← itoa_nat, hi]; exact List.mem_cons_self)
  rcases hc with ⟨rfl, _⟩ | ⟨rfl, _⟩ | ⟨_, _, m, hm, hn⟩
  · simp at hb
  · simp at hb
  · have : u = m := by omega
    subst this
    rw [readDec_of hl hm, if_pos ⟨by omega, hi⟩]
theorem decFrom_ten {l : List UInt8} {k m : Nat} (h : Lib.decFrom 0 (l.take k) = some m) (hl : l.length ≤ 10) : m < 10000000000 := by
  have h1 := Lib.decFrom_lt _ 0 m h
  have h2 : (l.take k).length ≤ 10 := by rw [List.length_take]; omega
  have h3 := Nat.pow_le_pow_right (n := 10) (by decide) h2
  have e : (10 : Nat) ^ 10 = 10000000000 := by decide
  omega
theorem bytes_ne {d s : ByteArray} (h : d.data.toList ≠ s.data.toList) : (d.toList == s.toList) = false := by
  rw [Bool.eq_false_iff]
  intro e
  have := eq_of_beq e
  rw [ByteArray.toList_eq, ByteArray.toList_eq] at this
  exact h this
theorem sReadDecimal_c (s : ByteArray) (w : World) (hm : s.size ≤ 1048576) :
    Calls Tryd.prog 6 #[.string s] w fun e w' => e = .returned (rdV s.data.toList) ∧ Below w.heap.size w w' := by
  have hl : s.data.toList.length = s.size := by simp
  by_cases h10 : s.size ≤ 10
  · have HL := Lib.hid hl
    clear hl
    go_enter Tryd.func6, Tryd.ntmps6
    go_wp2
    have hs10 : s.data.toList.length ≤ 10 := by rw [HL.out]; exact h10
    have HS := Lib.hid hs10
    clear hs10
    go_loopw [4, 5] (fun n i wr => ∃ (k m : Nat), k ≤ s.size ∧ m < 10000000000 ∧ n = .int .i64 (m : Int) ∧ i = .int .i64 k ∧ Hid (Lib.decFrom 0 (s.data.toList.take k) = some m) ∧ wr = w) (fun _ i _ => s.size - (intOf i).toNat)
    case atStart => exact ⟨0, 0, by omega, by omega, rfl, rfl, Lib.hid rfl, rfl⟩
    case round =>
      obtain ⟨k, m, hk, hm10, rfl, rfl, HD, rfl⟩ := hrel
      by_cases hlt : k < s.size
      · obtain ⟨c, hc⟩ : ∃ c, c = s[k]'hlt := ⟨_, rfl⟩
        have hcl : s.data.toList[k]? = some c := by rw [List.getElem?_eq_getElem (by rw [HL.out]; exact hlt), hc]; rfl
        have h256 := c.toNat_lt
        by_cases hbad : c.toNat < 48 ∨ 57 < c.toNat
        · have HV : Hid (rdV s.data.toList = .tuple #[.int .i64 0, .bool false]) := Lib.hid (by
            unfold rdV
            rw [readDec_none (decFrom_bad hcl (by unfold Lib.digitVal; rw [if_neg (by omega)]))])
          clear hcl
          subst hc
          rcases hbad with hbad | hbad
          all_goals
            go_wp2
            go_returns
            exact ⟨by rw [HV.out]; rfl, Below.refl _ _⟩
        · have hok : 48 ≤ c.toNat ∧ c.toNat ≤ 57 := by omega
          obtain ⟨hok1, hok2⟩ := hok
          have hst := Lib.decFrom_take _ k 0 m c (c.toNat - 48) HD.out hcl (by unfold Lib.digitVal; rw [if_pos ⟨hok1, hok2⟩])
          obtain ⟨m', hm'⟩ : ∃ m', m * 10 + (c.toNat - 48) = m' := ⟨_, rfl⟩
          rw [hm'] at hst
          have hb' := decFrom_ten hst HS.out
          have HST := Lib.hid hst
          have hval : 10 * (m : Int) + (c.toNat : Int) - 48 = (m' : Int) := by omega
          have HVL := Lib.hid hval
          have HM' := Lib.hid hb'
          clear hcl hbad HD hst hm' hval hb'
          subst hc
          go_wp2
          go_roundw
          case rel => exact ⟨k + 1, m', by omega, HM'.out, by first | (rw [HVL.out]; done) | (rw [← HVL.out]; go_num) | go_num, by go_num, HST, by first | trivial | rfl⟩
          case measure => simp [intOf]; omega
      · obtain rfl : k = s.size := by omega
        have hd := HD.out
        rw [List.take_of_length_le (by rw [HL.out]; exact Nat.le_refl _)] at hd
        have hrd := readDec_of HS.out hd
        by_cases hbig : m ≤ 1000000000
        · by_cases heq : Lib.itoa (m : Int) = s.data.toList
          · have HV : Hid (rdV s.data.toList = .tuple #[.int .i64 (m : Int), .bool true]) := Lib.hid (by unfold rdV; rw [hrd, if_pos ⟨hbig, heq⟩])
            have hds : (⟨(Lib.itoa (m : Int)).toArray⟩ : ByteArray) = s := bytes_inj (by simpa using heq)
            have HC := Lib.hid (sDecimal_c (m : Int) (by omega) (by omega))
            rw [hds] at HC
            clear hd hrd heq hds HD
            go_wp2_with (go_at_call 8; refine (HC.out _).mono ?_; rintro e w' ⟨rfl, hb1⟩)
            go_returns
            exact ⟨by rw [HV.out]; rfl, hb1⟩
          · have HV : Hid (rdV s.data.toList = .tuple #[.int .i64 0, .bool false]) := Lib.hid (by unfold rdV; rw [hrd, if_neg (fun h => heq h.2)])
            obtain ⟨d, hd2⟩ : ∃ d : ByteArray, (⟨(Lib.itoa (m : Int)).toArray⟩ : ByteArray) = d := ⟨_, rfl⟩
            have hne : (d.toList == s.toList) = false := bytes_ne (by rw [← hd2]; simpa using heq)
            have HC := Lib.hid (sDecimal_c (m : Int) (by omega) (by omega))
            rw [hd2] at HC
            clear hd hrd heq hd2 HD
            go_wp2_with (go_at_call 8; refine (HC.out _).mono ?_; rintro e w' ⟨rfl, hb1⟩)
            go_returns
            exact ⟨by rw [HV.out]; rfl, hb1⟩
        · have HV : Hid (rdV s.data.toList = .tuple #[.int .i64 0, .bool false]) := Lib.hid (by unfold rdV; rw [hrd, if_neg (fun h => hbig h.1)])
          clear hd hrd HD
          have hbg : ¬ (m : Int) ≤ 1000000000 := by omega
          go_wp2
          go_returns
          exact ⟨by rw [HV.out]; rfl, Below.refl _ _⟩
  · have hV : rdV s.data.toList = .tuple #[.int .i64 0, .bool false] := by unfold rdV; rw [readDec_long (by omega)]
    rw [hV]
    go_enter Tryd.func6, Tryd.ntmps6
    go_wp2
    go_returns
    exact ⟨rfl, Below.refl _ _⟩
theorem iReadDecimal_c (s : ByteArray) (w : World) (hm : s.size ≤ 1048576) (htab : Lib.TabIs Tryd.prog w tabName .u64 Lib.pow10Tab) (tp : TypeId) (p : Value) (hvar : w.var? Tryd.prog "strconv.ErrSyntax" = some #[.iface tp p]) :
    Calls Tryd.prog 7 #[.string s] w fun e w' => e = .returned (rdV s.data.toList) ∧ Below w.heap.size w w' := by
  have hl : s.data.toList.length = s.size := by simp
  by_cases h10 : 1 ≤ s.size ∧ s.size ≤ 10
  · obtain ⟨h1, h10⟩ := h10
    have hll : s.data.toList.length ≤ 10 := by omega
    rcases hat : Lib.atoi s.data.toList with _ | n
    · have HV : Hid (rdV s.data.toList = .tuple #[.int .i64 0, .bool false]) := Lib.hid (by
        unfold rdV
        rcases hr : readDec s.data.toList with _ | n
        · rfl
        · have := (atoi_of_read hr).1; rw [hat] at this; cases this)
      have HC := Lib.hid (strconvAtoi_err s (by omega) hat tp p w hvar)
      clear hat hl hll hvar htab
      go_enter Tryd.func7, Tryd.ntmps7
      go_wp2_with (go_at_call 15; refine HC.out.mono ?_; rintro e w' ⟨N, rfl, hb1⟩)
      go_returns
      exact ⟨by rw [HV.out]; rfl, hb1⟩
    · have HC := Lib.hid (strconvAtoi s n (by omega) hat w)
      have hb := Lib.atoi_bound hat (by omega)
      have HT := Lib.hid htab
      have HI : Hid (∀ W, Lib.TabIs Tryd.prog W tabName .u64 Lib.pow10Tab → Calls Tryd.prog 16 #[.int .i64 n] W fun e w' => e = .returned (.string ⟨(Lib.itoa n).toArray⟩) ∧ Below W.heap.size W w') := Lib.hid fun W h => strconvItoa n (by omega) (by omega) W h
      obtain ⟨hb2, hb3⟩ := hb
      have hs1 : s.size ≤ 10 := h10
      clear hvar htab
      by_cases heq : Lib.itoa n = s.data.toList
      · have hds : (⟨(Lib.itoa n).toArray⟩ : ByteArray) = s := bytes_inj (by simpa using heq)
        rw [hds] at HI
        by_cases hin : 0 ≤ n ∧ n ≤ 1000000000
        · have HV : Hid (rdV s.data.toList = .tuple #[.int .i64 n, .bool true]) := Lib.hid (by unfold rdV; rw [read_of_atoi hll hat heq hin.1 hin.2])
          obtain ⟨hi0, hi1⟩ := hin
          clear hat hl hll heq hds
          go_enter Tryd.func7, Tryd.ntmps7
          go_wp2_with fail
          refine HC.out.mono ?_
          rintro e w1 ⟨rfl, hb1⟩
          have HT1 := Lib.hid (tab_below HT.out hb1)
          go_wp2_with (first | (go_at_call 16; refine (HI.out _ HT1.out).mono ?_; rintro e w2 ⟨rfl, hb4⟩) | go_in)
          go_returns
          exact ⟨by rw [HV.out]; rfl, hb1.trans (hb4.mono hb1.size)⟩
        · have HV : Hid (rdV s.data.toList = .tuple #[.int .i64 0, .bool false]) := Lib.hid (by
            unfold rdV
            rcases hr : readDec s.data.toList with _ | n'
            · rfl
            · obtain ⟨q1, q2, q3, q4⟩ := atoi_of_read hr
              rw [hat] at q1
              injection q1 with q1
              subst q1
              exact absurd ⟨q3, q4⟩ hin)
          have hc : n < 0 ∨ 0 ≤ n ∧ decide (n ≤ 1000000000) = false := by
            rcases Int.lt_or_le n 0 with h | h
            · exact .inl h
            · exact .inr ⟨h, decide_eq_false (fun h2 => hin ⟨h, h2⟩)⟩
          clear hat hl hll heq hds hin
          rcases hc with hc | ⟨hc0, hc⟩
          all_goals
            go_enter Tryd.func7, Tryd.ntmps7
            go_wp2_with fail
            refine HC.out.mono ?_
            rintro e w1 ⟨rfl, hb1⟩
            have HT1 := Lib.hid (tab_below HT.out hb1)
            go_wp2_with (first | (go_at_call 16; refine (HI.out _ HT1.out).mono ?_; rintro e w2 ⟨rfl, hb4⟩) | go_in)
            go_returns
            exact ⟨by rw [HV.out]; rfl, hb1.trans (hb4.mono hb1.size)⟩
      · have HV : Hid (rdV s.data.toList = .tuple #[.int .i64 0, .bool false]) := Lib.hid (by
          unfold rdV
          rcases hr : readDec s.data.toList with _ | n'
          · rfl
          · obtain ⟨q1, q2, q3, q4⟩ := atoi_of_read hr
            rw [hat] at q1
            injection q1 with q1
            subst q1
            exact absurd q2 heq)
        obtain ⟨d, hd2⟩ : ∃ d : ByteArray, (⟨(Lib.itoa n).toArray⟩ : ByteArray) = d := ⟨_, rfl⟩
        have hne : (d.toList == s.toList) = false := bytes_ne (by rw [← hd2]; simpa using heq)
        rw [hd2] at HI
        clear hat hl hll heq hd2
        go_enter Tryd.func7, Tryd.ntmps7
        go_wp2_with fail
        refine HC.out.mono ?_
        rintro e w1 ⟨rfl, hb1⟩
        have HT1 := Lib.hid (tab_below HT.out hb1)
        go_wp2_with (first | (go_at_call 16; refine (HI.out _ HT1.out).mono ?_; rintro e w2 ⟨rfl, hb4⟩) | go_in)
        go_returns
        exact ⟨by rw [HV.out]; rfl, hb1.trans (hb4.mono hb1.size)⟩
  · have hV : rdV s.data.toList = .tuple #[.int .i64 0, .bool false] := by
      unfold rdV
      rcases hr : readDec s.data.toList with _ | n
      · rfl
      · obtain ⟨h1, h2, h3, h4⟩ := atoi_of_read hr
        exfalso
        have hle : s.data.toList.length ≤ 10 := by
          rcases Nat.lt_or_ge 10 s.data.toList.length with h | h
          · rw [readDec_long h] at hr; cases hr
          · exact h
        have h0 : s.size = 0 := by omega
        have : s.data.toList = [] := List.eq_nil_of_length_eq_zero (by omega)
        rw [this] at h1
        cases h1
    rw [hV]
    have hc : s.size = 0 ∨ 10 < s.size := by omega
    clear h10 hV hl htab hvar
    rcases hc with hc | hc
    all_goals
      go_enter Tryd.func7, Tryd.ntmps7
      go_wp2
      go_returns
      exact ⟨rfl, Below.refl _ _⟩
end Go.Proofs.YthieianmlfejgaaDoor
