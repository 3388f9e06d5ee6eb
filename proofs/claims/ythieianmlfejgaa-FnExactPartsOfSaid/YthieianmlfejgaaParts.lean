/- Contracts of PartsOf: the parts of a line. Condition: the line holds at most 1048576 bytes. -/
import Derived.Test.YthieianmlfejgaaStrL
namespace Go.Proofs.Ythieianmlfejgaa
open Go.RowKit
set_option linter.unusedVariables false
set_option linter.unusedSimpArgs false
set_option maxHeartbeats 1000000

/-- Where the part at hand begins, and the parts before it, when i bytes have been read. -/
def partTo (l : List UInt8) : Nat → Nat × List (List UInt8)
  | 0 => (0, [])
  | i + 1 => if i < l.length ∧ l.getD i 0 ≠ 32 then partTo l i else (i + 1, if (partTo l i).1 < i then (partTo l i).2 ++ [(l.drop (partTo l i).1).take (i - (partTo l i).1)] else (partTo l i).2)
theorem partTo_le (l : List UInt8) (i : Nat) : (partTo l i).1 ≤ i ∧ (partTo l i).2.length ≤ i := by
  induction i with
  | zero => simp [partTo]
  | succ i ih =>
    unfold partTo
    split
    · omega
    · refine ⟨Nat.le_refl _, ?_⟩
      show (if _ then _ else _ : List (List UInt8)).length ≤ _
      split
      · rw [List.length_append, List.length_singleton]; omega
      · omega
theorem partTo_in (l : List UInt8) (i : Nat) (h : i < l.length) (hc : l.getD i 0 ≠ 32) : partTo l (i + 1) = partTo l i := by
  rw [partTo, if_pos ⟨h, hc⟩]
theorem partTo_word (l : List UInt8) (i : Nat) (h : ¬ (i < l.length ∧ l.getD i 0 ≠ 32)) (hb : (partTo l i).1 < i) : partTo l (i + 1) = (i + 1, (partTo l i).2 ++ [(l.drop (partTo l i).1).take (i - (partTo l i).1)]) := by
  rw [partTo, if_neg h, if_pos hb]
theorem partTo_none (l : List UInt8) (i : Nat) (h : ¬ (i < l.length ∧ l.getD i 0 ≠ 32)) (hb : ¬ (partTo l i).1 < i) : partTo l (i + 1) = (i + 1, (partTo l i).2) := by
  rw [partTo, if_neg h, if_neg hb]
def okB (b : UInt8) : Bool := decide (32 ≤ b.toNat) && decide (b.toNat ≤ 126)
/-- What PartsOf answers. -/
def partsOf (l : List UInt8) : List (List UInt8) × Bool :=
  if l.length ≤ 600 ∧ l.all okB = true ∧ (partTo l (l.length + 1)).2.length ≤ 12 then ((partTo l (l.length + 1)).2, true) else ([], false)
theorem partsOf_bad (l : List UInt8) (i : Nat) (h : i < l.length) (hb : okB (l[i]) = false) : partsOf l = ([], false) := by
  unfold partsOf
  rw [if_neg]
  rintro ⟨_, h2, _⟩
  have := List.all_eq_true.1 h2 _ (List.getElem_mem h)
  rw [hb] at this
  cases this
theorem partsOf_end (l : List UInt8) (h : l.length ≤ 600) (ha : l.all okB = true) (h12 : (partTo l (l.length + 1)).2.length ≤ 12) : partsOf l = ((partTo l (l.length + 1)).2, true) := by
  unfold partsOf
  rw [if_pos ⟨h, ha, h12⟩]
theorem partsOf_many (l : List UInt8) (h12 : ¬ (partTo l (l.length + 1)).2.length ≤ 12) : partsOf l = ([], false) := by
  unfold partsOf
  rw [if_neg (fun h => h12 h.2.2)]
theorem partsOf_len (l : List UInt8) : (partsOf l).1.length ≤ 12 := by
  unfold partsOf
  split
  · rename_i h; exact h.2.2
  · simp
def PartsOut (w : World) (l : List (List UInt8)) (b : Bool) (e : Ending) (w' : World) : Prop := ∃ A c, e = .returned (.tuple #[.slice A l.length c, .bool b]) ∧ w'.ownsRow w.heap.size 9 1 (.slice A l.length c) l.length (strCells l) ∧ Below w.heap.size w w'
theorem extract_word (s : ByteArray) (b k : Nat) : (Value.string (s.extract b k)) = strOf ((s.data.toList.drop b).take (k - b)) := by
  unfold strOf
  congr 1
  apply ByteArray.ext
  apply Array.ext'
  simp [List.extract]
theorem sPartsOf_1 (s : ByteArray) (w : World) (hs : s.size ≤ 600) (r : List (List UInt8)) (v : Bool) (hr : partsOf s.data.toList = (r, v)) :
    Calls Try.prog 12 #[.string s] w (PartsOut w r v) := by
  obtain ⟨i0, hi, hz0, hz1, hz2⟩ := info_parts info_str
  have hlit := World.ownsRow_lit (base := w.heap.size) (e := 9) (size := 1) w #[] 0 (Nat.le_refl _) (by simp) (by simp)
  have hl : s.data.toList.length = s.size := by simp
  have HR := Lib.hid hr
  have HL := Lib.hid hl
  clear hr hl
  go_enter Try.func12, Try.ntmps12
  go_wp2
  go_loopw [4, 5, 6] (fun v q i wr => ∃ (k b : Nat) (o : List (List UInt8)) (G : Option Addr) (cc : Nat), k ≤ s.size + 1 ∧ b ≤ k ∧ o.length ≤ k ∧ i = .int .i64 k ∧ q = .int .i64 (b : Int) ∧ v = .slice G o.length cc ∧ Hid (partTo s.data.toList k = (b, o)) ∧ Hid ((s.data.toList.take k).all okB = true) ∧ Hid (wr.ownsRow w.heap.size 9 1 (.slice G o.length cc) o.length (strCells o)) ∧ Hid (Below w.heap.size w wr)) (fun _ _ i _ => s.size + 1 - (intOf i).toNat)
  case atStart => exact ⟨0, 0, [], _, _, by omega, by omega, by simp, rfl, rfl, rfl, Lib.hid rfl, Lib.hid rfl, Lib.hid hlit, Lib.hid ((Below.refl _ _).alloc (Nat.le_refl _) _)⟩
  case round =>
    obtain ⟨k, b, o, G, cc, hk, hbk, hok, rfl, rfl, rfl, HP, HA, hown, hbel⟩ := hrel
    clear hlit
    by_cases hlt : k < s.size
    · have hk600 : (k : Int) ≤ 600 := by omega
      obtain ⟨c, hc⟩ : ∃ c, c = s[k]'hlt := ⟨_, rfl⟩
      have hcl : s.data.toList[k]'(by rw [HL.out]; exact hlt) = c := by rw [hc]; rfl
      have h256 := c.toNat_lt
      by_cases hbad : c.toNat < 32 ∨ 126 < c.toNat
      · have HV : Hid (partsOf s.data.toList = ([], false)) := Lib.hid (partsOf_bad _ k (by rw [HL.out]; exact hlt) (by rw [hcl]; simp [okB]; omega))
        subst hc
        clear hcl HP HA hown
        have hbad2 : (s[k]'hlt).toNat < 32 ∨ 32 ≤ (s[k]'hlt).toNat ∧ 126 < (s[k]'hlt).toNat := by omega
        clear hbad
        rcases hbad2 with hbad | ⟨hbad0, hbad⟩
        rotate_left
        · have hd126 : decide (((s[k]'hlt).toNat : Int) ≤ 126) = false := decide_eq_false (by omega)
          have hsz := hbel.out.size
          go_wp2
          go_returns
          have e := HR.out.symm.trans HV.out
          injection e with e1 e2
          subst e1 e2
          exact ⟨_, _, rfl, World.ownsRow_lit (base := w.heap.size) (e := 9) (size := 1) wr #[] 0 hsz (by simp) (by simp), hbel.out.alloc hsz _⟩
        · have hsz := hbel.out.size
          go_wp2
          go_returns
          have e := HR.out.symm.trans HV.out
          injection e with e1 e2
          subst e1 e2
          exact ⟨_, _, rfl, World.ownsRow_lit (base := w.heap.size) (e := 9) (size := 1) wr #[] 0 hsz (by simp) (by simp), hbel.out.alloc hsz _⟩
      · have hok1 : 32 ≤ c.toNat ∧ c.toNat ≤ 126 := by omega
        obtain ⟨hok2, hok3⟩ := hok1
        have hd126 : decide (((s[k]'hlt).toNat : Int) ≤ 126) = true := decide_eq_true (by rw [← hc]; omega)
        have hke : ((k : Int) == (s.size : Int)) = false := by simp; omega
        have hgd : s.data.toList.getD k 0 = c := by rw [List.getD_eq_getElem?_getD, List.getElem?_eq_getElem (by rw [HL.out]; exact hlt), hcl]; rfl
        have HA1 : Hid ((s.data.toList.take (k + 1)).all okB = true) := Lib.hid (by
          rw [List.take_add_one, List.getElem?_eq_getElem (by rw [HL.out]; exact hlt), hcl, List.all_append, HA.out]
          simp [okB]; omega)
        by_cases h32 : c.toNat = 32
        · have HB : Hid (¬ (k < s.data.toList.length ∧ s.data.toList.getD k 0 ≠ 32)) := Lib.hid (by
            rw [hgd]
            rintro ⟨_, h⟩
            exact h (UInt8.toNat_inj.1 h32))
          clear hgd hcl HA hbad hok2 hok3
          subst hc
          by_cases hw : b < k
          · have hpn := partTo_word _ k HB.out (by rw [HP.out]; exact hw)
            rw [HP.out] at hpn
            have HP1 := Lib.hid hpn
            have hsz := hbel.out.size
            have hk600 : (k : Int) ≤ 601 := by omega
            clear hpn HP HB
            go_wp2_with (at_builtin; (refine wpList_append_own _ rfl _ _ 25 rfl w.heap.size 9 i0 (.string ⟨#[]⟩) 1 16 Try.underlying25 hi hz0 hz1 hz2 rfl (by decide) (.slice G o.length cc) o.length (strCells o) rfl (hown.out.alloc _) ⟨wr.heap.size, 0, none⟩ 1 1 [.string (s.extract b k)] rfl rfl (new_one wr #[.string (s.extract b k)] _) (by intro u hu; simp at hu; subst hu; rfl) (by unfold maxLen; omega) (by omega) (by simp; omega) ?_); intro v' w3 hown3 hgr3 hx3; refine Hid.out ?_)
            refine Lib.hid ?_
            have hbl3 := Lib.hid (below_grown (hbel.out.alloc hsz _) (hown.out.alloc _) (Nat.le_refl _) hgr3)
            obtain ⟨G', cc', rfl⟩ := own_shape hown3
            have HO : Hid (w3.ownsRow w.heap.size 9 1 (.slice G' (o ++ [(s.data.toList.drop b).take (k - b)]).length cc') (o ++ [(s.data.toList.drop b).take (k - b)]).length (strCells (o ++ [(s.data.toList.drop b).take (k - b)]))) := Lib.hid (by
              rw [strCells_append, List.length_append, List.length_singleton]
              have e : strCells [(s.data.toList.drop b).take (k - b)] = [.string (s.extract b k)] := by rw [extract_word]; rfl
              rw [e]
              exact hown3)
            have hlen : (o ++ [(s.data.toList.drop b).take (k - b)]).length = o.length + 1 := by simp
            have HLn := Lib.hid hlen
            clear hown3 hgr3 hx3 hown hbel hlen
            go_wp2
            go_roundw
            case rel => exact ⟨k + 1, k + 1, _, G', cc', by omega, by omega, by have := HLn.out; omega, by go_num, by go_num, by rw [HLn.out], HP1, HA1, HO, hbl3⟩
            case measure => first | (simp [intOf]; done) | (simp [intOf]; omega)
          · have hpn := partTo_none _ k HB.out (by rw [HP.out]; exact hw)
            rw [HP.out] at hpn
            have HP1 := Lib.hid hpn
            clear hpn HP HB
            go_wp2
            go_roundw
            case rel => exact ⟨k + 1, k + 1, o, G, cc, by omega, by omega, by omega, by go_num, by go_num, rfl, HP1, HA1, hown, hbel⟩
            case measure => first | (simp [intOf]; done) | (simp [intOf]; omega)
        · have hpn := partTo_in _ k (by rw [HL.out]; exact hlt) (by rw [hgd]; rintro rfl; exact h32 rfl)
          rw [HP.out] at hpn
          have HP1 := Lib.hid hpn
          have hd32 : (((s[k]'hlt).toNat : Int) == 32) = false := by rw [← hc]; simp; omega
          clear hgd hcl HA hbad hpn HP
          subst hc
          go_wp2
          go_roundw
          case rel => exact ⟨k + 1, b, o, G, cc, by omega, by omega, by omega, by go_num, rfl, rfl, HP1, HA1, hown, hbel⟩
          case measure => first | (simp [intOf]; done) | (simp [intOf]; omega)
    · by_cases hend : k = s.size
      · have HB : Hid (¬ (k < s.data.toList.length ∧ s.data.toList.getD k 0 ≠ 32)) := Lib.hid (by rw [HL.out]; rintro ⟨h, _⟩; exact hlt h)
        have HA1 : Hid ((s.data.toList.take (k + 1)).all okB = true) := Lib.hid (by
          have h := HA.out
          rw [List.take_of_length_le (by rw [HL.out]; omega)] at h ⊢
          exact h)
        clear HA
        subst hend
        by_cases hw : b < s.size
        · have hpn := partTo_word _ s.size HB.out (by rw [HP.out]; exact hw)
          rw [HP.out] at hpn
          have HP1 := Lib.hid hpn
          have hsz := hbel.out.size
          have hk600 : (s.size : Int) ≤ 601 := by omega
          clear hpn HP HB
          go_wp2_with (at_builtin; (refine wpList_append_own _ rfl _ _ 25 rfl w.heap.size 9 i0 (.string ⟨#[]⟩) 1 16 Try.underlying25 hi hz0 hz1 hz2 rfl (by decide) (.slice G o.length cc) o.length (strCells o) rfl (hown.out.alloc _) ⟨wr.heap.size, 0, none⟩ 1 1 [.string (s.extract b s.size)] rfl rfl (new_one wr #[.string (s.extract b s.size)] _) (by intro u hu; simp at hu; subst hu; rfl) (by unfold maxLen; omega) (by omega) (by simp; omega) ?_); intro v' w3 hown3 hgr3 hx3; refine Hid.out ?_)
          refine Lib.hid ?_
          have hbl3 := Lib.hid (below_grown (hbel.out.alloc hsz _) (hown.out.alloc _) (Nat.le_refl _) hgr3)
          obtain ⟨G', cc', rfl⟩ := own_shape hown3
          have HO : Hid (w3.ownsRow w.heap.size 9 1 (.slice G' (o ++ [(s.data.toList.drop b).take (s.size - b)]).length cc') (o ++ [(s.data.toList.drop b).take (s.size - b)]).length (strCells (o ++ [(s.data.toList.drop b).take (s.size - b)]))) := Lib.hid (by
            rw [strCells_append, List.length_append, List.length_singleton]
            have e : strCells [(s.data.toList.drop b).take (s.size - b)] = [.string (s.extract b s.size)] := by rw [extract_word]; rfl
            rw [e]
            exact hown3)
          have hlen : (o ++ [(s.data.toList.drop b).take (s.size - b)]).length = o.length + 1 := by simp
          have HLn := Lib.hid hlen
          clear hown3 hgr3 hx3 hown hbel hlen
          go_wp2
          go_roundw
          case rel => exact ⟨s.size + 1, s.size + 1, _, G', cc', by omega, by omega, by have := HLn.out; omega, by go_num, by go_num, by rw [HLn.out], HP1, HA1, HO, hbl3⟩
          case measure => first | (simp [intOf]; done) | (simp [intOf]; omega)
        · have hpn := partTo_none _ s.size HB.out (by rw [HP.out]; exact hw)
          rw [HP.out] at hpn
          have HP1 := Lib.hid hpn
          clear hpn HP HB
          go_wp2
          go_roundw
          case rel => exact ⟨s.size + 1, s.size + 1, o, G, cc, by omega, by omega, by omega, by go_num, by go_num, rfl, HP1, HA1, hown, hbel⟩
          case measure => first | (simp [intOf]; done) | (simp [intOf]; omega)
      · obtain rfl : k = s.size + 1 := by omega
        have HA0 : Hid (s.data.toList.all okB = true) := Lib.hid (by
          have h := HA.out
          rw [List.take_of_length_le (by rw [HL.out]; omega)] at h
          exact h)
        have hP2 : (partTo s.data.toList (s.data.toList.length + 1)).2 = o := by rw [HL.out, HP.out]
        have hsz := hbel.out.size
        by_cases h12 : o.length ≤ 12
        · have hV := partsOf_end s.data.toList (by rw [HL.out]; exact hs) HA0.out (by rw [hP2]; exact h12)
          rw [hP2] at hV
          have e := HR.out.symm.trans hV
          injection e with e1 e2
          have E1 := Lib.hid e1
          have E2 := Lib.hid e2
          clear hV hP2 HP HA e1 e2
          go_wp2
          go_returns
          obtain rfl := E1.out
          obtain rfl := E2.out
          exact ⟨_, _, rfl, hown.out, hbel.out⟩
        · have hV := partsOf_many s.data.toList (by rw [hP2]; exact h12)
          have e := HR.out.symm.trans hV
          injection e with e1 e2
          have E1 := Lib.hid e1
          have E2 := Lib.hid e2
          clear hV hP2 HP HA e1 e2 hown
          go_wp2
          go_returns
          obtain rfl := E1.out
          obtain rfl := E2.out
          exact ⟨_, _, rfl, World.ownsRow_lit (base := w.heap.size) (e := 9) (size := 1) wr #[] 0 hsz (by simp) (by simp), hbel.out.alloc hsz _⟩
theorem sPartsOf_2 (s : ByteArray) (w : World) (hs : 600 < s.size) (hm : s.size ≤ 1048576) : Calls Try.prog 12 #[.string s] w (PartsOut w [] false) := by
  go_enter Try.func12, Try.ntmps12
  go_wp2
  go_returns
  exact ⟨_, _, rfl, World.ownsRow_lit (base := w.heap.size) (e := 9) (size := 1) w #[] 0 (Nat.le_refl _) (by simp) (by simp), (Below.refl _ _).alloc (Nat.le_refl _) _⟩
theorem iPartsOf_1 (s : ByteArray) (w : World) (hs : s.size ≤ 600) (r : List (List UInt8)) (v : Bool) (hr : partsOf s.data.toList = (r, v)) :
    Calls Try.prog 13 #[.string s] w (PartsOut w r v) := by
  obtain ⟨i0, hi, hz0, hz1, hz2⟩ := info_parts info_str
  have hlit := World.ownsRow_lit (base := w.heap.size) (e := 9) (size := 1) w #[] 0 (Nat.le_refl _) (by simp) (by simp)
  have hl : s.data.toList.length = s.size := by simp
  have HR := Lib.hid hr
  have HL := Lib.hid hl
  clear hr hl
  go_enter Try.func13, Try.ntmps13
  go_wp2
  go_loopw [5, 4, 6] (fun q v i wr => ∃ (k b : Nat) (o : List (List UInt8)) (G : Option Addr) (cc : Nat) (f : Int), k ≤ s.size + 1 ∧ b ≤ k ∧ o.length ≤ k ∧ i = .int .i64 k ∧ q = .int .i64 f ∧ v = .slice G o.length cc ∧ (b < k ∧ f = (b : Int) ∨ ¬ b < k ∧ f = -1) ∧ Hid (partTo s.data.toList k = (b, o)) ∧ Hid ((s.data.toList.take k).all okB = true) ∧ Hid (wr.ownsRow w.heap.size 9 1 (.slice G o.length cc) o.length (strCells o)) ∧ Hid (Below w.heap.size w wr)) (fun _ _ i _ => s.size + 1 - (intOf i).toNat)
  case atStart => exact ⟨0, 0, [], _, _, -1, by omega, by omega, by simp, rfl, rfl, rfl, .inr ⟨by omega, rfl⟩, Lib.hid rfl, Lib.hid rfl, Lib.hid hlit, Lib.hid ((Below.refl _ _).alloc (Nat.le_refl _) _)⟩
  case round =>
    obtain ⟨k, b, o, G, cc, f, hk, hbk, hok, rfl, rfl, rfl, hf, HP, HA, hown, hbel⟩ := hrel
    clear hlit
    by_cases hlt : k < s.size
    · have hk600 : (k : Int) ≤ 600 := by omega
      obtain ⟨c, hc⟩ : ∃ c, c = s[k]'hlt := ⟨_, rfl⟩
      have hcl : s.data.toList[k]'(by rw [HL.out]; exact hlt) = c := by rw [hc]; rfl
      have h256 := c.toNat_lt
      by_cases hbad : c.toNat < 32 ∨ 126 < c.toNat
      · have HV : Hid (partsOf s.data.toList = ([], false)) := Lib.hid (partsOf_bad _ k (by rw [HL.out]; exact hlt) (by rw [hcl]; simp [okB]; omega))
        subst hc
        clear hcl HP HA hown
        have hbad2 : (s[k]'hlt).toNat < 32 ∨ 32 ≤ (s[k]'hlt).toNat ∧ 126 < (s[k]'hlt).toNat := by omega
        clear hbad
        rcases hbad2 with hbad | ⟨hbad0, hbad⟩
        rotate_left
        · have hd126 : decide (((s[k]'hlt).toNat : Int) ≤ 126) = false := decide_eq_false (by omega)
          have hsz := hbel.out.size
          go_wp2
          go_returns
          have e := HR.out.symm.trans HV.out
          injection e with e1 e2
          subst e1 e2
          exact ⟨_, _, rfl, World.ownsRow_nil _ _ _ _, hbel.out⟩
        · have hsz := hbel.out.size
          go_wp2
          go_returns
          have e := HR.out.symm.trans HV.out
          injection e with e1 e2
          subst e1 e2
          exact ⟨_, _, rfl, World.ownsRow_nil _ _ _ _, hbel.out⟩
      · have hok1 : 32 ≤ c.toNat ∧ c.toNat ≤ 126 := by omega
        obtain ⟨hok2, hok3⟩ := hok1
        have hd126 : decide (((s[k]'hlt).toNat : Int) ≤ 126) = true := decide_eq_true (by rw [← hc]; omega)
        have hke : ((k : Int) == (s.size : Int)) = false := by simp; omega
        have hgd : s.data.toList.getD k 0 = c := by rw [List.getD_eq_getElem?_getD, List.getElem?_eq_getElem (by rw [HL.out]; exact hlt), hcl]; rfl
        have HA1 : Hid ((s.data.toList.take (k + 1)).all okB = true) := Lib.hid (by
          rw [List.take_add_one, List.getElem?_eq_getElem (by rw [HL.out]; exact hlt), hcl, List.all_append, HA.out]
          simp [okB]; omega)
        by_cases h32 : c.toNat = 32
        · have HB : Hid (¬ (k < s.data.toList.length ∧ s.data.toList.getD k 0 ≠ 32)) := Lib.hid (by
            rw [hgd]
            rintro ⟨_, h⟩
            exact h (UInt8.toNat_inj.1 h32))
          clear hgd hcl HA hbad hok2 hok3
          subst hc
          rcases hf with ⟨hw, rfl⟩ | ⟨hw, rfl⟩
          · have hpn := partTo_word _ k HB.out (by rw [HP.out]; exact hw)
            rw [HP.out] at hpn
            have HP1 := Lib.hid hpn
            have hsz := hbel.out.size
            have hk600 : (k : Int) ≤ 601 := by omega
            clear hpn HP HB
            go_wp2_with (first | (at_builtin; (refine wpList_append_own _ rfl _ _ 25 rfl w.heap.size 9 i0 (.string ⟨#[]⟩) 1 16 Try.underlying25 hi hz0 hz1 hz2 rfl (by decide) (.slice G o.length cc) o.length (strCells o) rfl (hown.out.alloc _) ⟨wr.heap.size, 0, none⟩ 1 1 [.string (s.extract b k)] rfl rfl (new_one wr #[.string (s.extract b k)] _) (by intro u hu; simp at hu; subst hu; rfl) (by unfold maxLen; omega) (by omega) (by simp; omega) ?_); intro v' w3 hown3 hgr3 hx3; refine Hid.out ?_) | go_in)
            refine Lib.hid ?_
            have hbl3 := Lib.hid (below_grown (hbel.out.alloc hsz _) (hown.out.alloc _) (Nat.le_refl _) hgr3)
            obtain ⟨G', cc', rfl⟩ := own_shape hown3
            have HO : Hid (w3.ownsRow w.heap.size 9 1 (.slice G' (o ++ [(s.data.toList.drop b).take (k - b)]).length cc') (o ++ [(s.data.toList.drop b).take (k - b)]).length (strCells (o ++ [(s.data.toList.drop b).take (k - b)]))) := Lib.hid (by
              rw [strCells_append, List.length_append, List.length_singleton]
              have e : strCells [(s.data.toList.drop b).take (k - b)] = [.string (s.extract b k)] := by rw [extract_word]; rfl
              rw [e]
              exact hown3)
            have hlen : (o ++ [(s.data.toList.drop b).take (k - b)]).length = o.length + 1 := by simp
            have HLn := Lib.hid hlen
            clear hown3 hgr3 hx3 hown hbel hlen
            go_wp2
            go_roundw
            case rel => exact ⟨k + 1, k + 1, _, G', cc', -1, by omega, by omega, by have := HLn.out; omega, by go_num, rfl, by rw [HLn.out], .inr ⟨by omega, rfl⟩, HP1, HA1, HO, hbl3⟩
            case measure => first | (simp [intOf]; done) | (simp [intOf]; omega)
          · have hpn := partTo_none _ k HB.out (by rw [HP.out]; exact hw)
            rw [HP.out] at hpn
            have HP1 := Lib.hid hpn
            clear hpn HP HB
            go_wp2
            go_roundw
            case rel => exact ⟨k + 1, k + 1, o, G, cc, -1, by omega, by omega, by omega, by go_num, rfl, rfl, .inr ⟨by omega, rfl⟩, HP1, HA1, hown, hbel⟩
            case measure => first | (simp [intOf]; done) | (simp [intOf]; omega)
        · have hpn := partTo_in _ k (by rw [HL.out]; exact hlt) (by rw [hgd]; rintro rfl; exact h32 rfl)
          rw [HP.out] at hpn
          have HP1 := Lib.hid hpn
          have hd32 : (((s[k]'hlt).toNat : Int) == 32) = false := by rw [← hc]; simp; omega
          clear hgd hcl HA hbad hpn HP
          subst hc
          rcases hf with ⟨hw, rfl⟩ | ⟨hw, rfl⟩
          · skip
            go_wp2
            go_roundw
            case rel => exact ⟨k + 1, b, o, G, cc, b, by omega, by omega, by omega, by go_num, rfl, rfl, .inl ⟨by omega, rfl⟩, HP1, HA1, hown, hbel⟩
            case measure => first | (simp [intOf]; done) | (simp [intOf]; omega)
          · obtain rfl : b = k := by omega
            go_wp2
            go_roundw
            case rel => exact ⟨b + 1, b, o, G, cc, b, by omega, by omega, by omega, by go_num, rfl, rfl, .inl ⟨by omega, rfl⟩, HP1, HA1, hown, hbel⟩
            case measure => first | (simp [intOf]; done) | (simp [intOf]; omega)
    · by_cases hend : k = s.size
      · have HB : Hid (¬ (k < s.data.toList.length ∧ s.data.toList.getD k 0 ≠ 32)) := Lib.hid (by rw [HL.out]; rintro ⟨h, _⟩; exact hlt h)
        have HA1 : Hid ((s.data.toList.take (k + 1)).all okB = true) := Lib.hid (by
          have h := HA.out
          rw [List.take_of_length_le (by rw [HL.out]; omega)] at h ⊢
          exact h)
        clear HA
        subst hend
        rcases hf with ⟨hw, rfl⟩ | ⟨hw, rfl⟩
        · have hpn := partTo_word _ s.size HB.out (by rw [HP.out]; exact hw)
          rw [HP.out] at hpn
          have HP1 := Lib.hid hpn
          have hsz := hbel.out.size
          have hk600 : (s.size : Int) ≤ 601 := by omega
          clear hpn HP HB
          go_wp2_with (first | (at_builtin; (refine wpList_append_own _ rfl _ _ 25 rfl w.heap.size 9 i0 (.string ⟨#[]⟩) 1 16 Try.underlying25 hi hz0 hz1 hz2 rfl (by decide) (.slice G o.length cc) o.length (strCells o) rfl (hown.out.alloc _) ⟨wr.heap.size, 0, none⟩ 1 1 [.string (s.extract b s.size)] rfl rfl (new_one wr #[.string (s.extract b s.size)] _) (by intro u hu; simp at hu; subst hu; rfl) (by unfold maxLen; omega) (by omega) (by simp; omega) ?_); intro v' w3 hown3 hgr3 hx3; refine Hid.out ?_) | go_in)
          refine Lib.hid ?_
          have hbl3 := Lib.hid (below_grown (hbel.out.alloc hsz _) (hown.out.alloc _) (Nat.le_refl _) hgr3)
          obtain ⟨G', cc', rfl⟩ := own_shape hown3
          have HO : Hid (w3.ownsRow w.heap.size 9 1 (.slice G' (o ++ [(s.data.toList.drop b).take (s.size - b)]).length cc') (o ++ [(s.data.toList.drop b).take (s.size - b)]).length (strCells (o ++ [(s.data.toList.drop b).take (s.size - b)]))) := Lib.hid (by
            rw [strCells_append, List.length_append, List.length_singleton]
            have e : strCells [(s.data.toList.drop b).take (s.size - b)] = [.string (s.extract b s.size)] := by rw [extract_word]; rfl
            rw [e]
            exact hown3)
          have hlen : (o ++ [(s.data.toList.drop b).take (s.size - b)]).length = o.length + 1 := by simp
          have HLn := Lib.hid hlen
          clear hown3 hgr3 hx3 hown hbel hlen
          go_wp2
          go_roundw
          case rel => exact ⟨s.size + 1, s.size + 1, _, G', cc', -1, by omega, by omega, by have := HLn.out; omega, by go_num, rfl, by rw [HLn.out], .inr ⟨by omega, rfl⟩, HP1, HA1, HO, hbl3⟩
          case measure => first | (simp [intOf]; done) | (simp [intOf]; omega)
        · have hpn := partTo_none _ s.size HB.out (by rw [HP.out]; exact hw)
          rw [HP.out] at hpn
          have HP1 := Lib.hid hpn
          clear hpn HP HB
          go_wp2
          go_roundw
          case rel => exact ⟨s.size + 1, s.size + 1, o, G, cc, -1, by omega, by omega, by omega, by go_num, rfl, rfl, .inr ⟨by omega, rfl⟩, HP1, HA1, hown, hbel⟩
          case measure => first | (simp [intOf]; done) | (simp [intOf]; omega)
      · obtain rfl : k = s.size + 1 := by omega
        have HA0 : Hid (s.data.toList.all okB = true) := Lib.hid (by
          have h := HA.out
          rw [List.take_of_length_le (by rw [HL.out]; omega)] at h
          exact h)
        have hP2 : (partTo s.data.toList (s.data.toList.length + 1)).2 = o := by rw [HL.out, HP.out]
        have hsz := hbel.out.size
        by_cases h12 : o.length ≤ 12
        · have hV := partsOf_end s.data.toList (by rw [HL.out]; exact hs) HA0.out (by rw [hP2]; exact h12)
          rw [hP2] at hV
          have e := HR.out.symm.trans hV
          injection e with e1 e2
          have E1 := Lib.hid e1
          have E2 := Lib.hid e2
          clear hV hP2 HP HA e1 e2
          go_wp2
          go_returns
          obtain rfl := E1.out
          obtain rfl := E2.out
          exact ⟨_, _, rfl, hown.out, hbel.out⟩
        · have hV := partsOf_many s.data.toList (by rw [hP2]; exact h12)
          have e := HR.out.symm.trans hV
          injection e with e1 e2
          have E1 := Lib.hid e1
          have E2 := Lib.hid e2
          clear hV hP2 HP HA e1 e2 hown
          go_wp2
          go_returns
          obtain rfl := E1.out
          obtain rfl := E2.out
          exact ⟨_, _, rfl, World.ownsRow_nil _ _ _ _, hbel.out⟩
theorem iPartsOf_2 (s : ByteArray) (w : World) (hs : 600 < s.size) (hm : s.size ≤ 1048576) : Calls Try.prog 13 #[.string s] w (PartsOut w [] false) := by
  go_enter Try.func13, Try.ntmps13
  go_wp2
  go_returns
  exact ⟨_, _, rfl, World.ownsRow_nil _ _ _ _, Below.refl _ _⟩
end Go.Proofs.Ythieianmlfejgaa
