/- Contracts of the laws' own functions on slices of slices of numbers: size, copy, compare, mark, hold. All rows together hold at most 1048576 numbers. -/
import Derived.Test.YtjgphiialfhdlaaMx
namespace Go.Proofs.Ytjgphiialfhdlaa
open Go.RowKit
set_option linter.unusedVariables false
set_option maxHeartbeats 1000000

def sumLen (L : List (List Int)) : Nat := (L.map List.length).sum
theorem sumLen_succ (L : List (List Int)) (k : Nat) (l : List Int) (h : L[k]? = some l) : sumLen (L.take (k + 1)) = sumLen (L.take k) + l.length := by
  rw [List.take_add_one, h]
  simp [sumLen]
theorem sumLen_le (L : List (List Int)) (k : Nat) : sumLen (L.take k) ≤ sumLen L := by
  have h : sumLen L = sumLen (L.take k) + sumLen (L.drop k) := by
    conv => lhs; rw [← List.take_append_drop k L]
    simp only [sumLen, List.map_append, List.sum_append]
  omega
theorem sumLen_row (L : List (List Int)) (k : Nat) (l : List Int) (h : L[k]? = some l) : l.length ≤ sumLen L := by
  have := sumLen_succ L k l h
  have := sumLen_le L (k + 1)
  omega
theorem info_ints : (Try.prog.info? 22).map (fun i => (i.zero, i.size, i.bytes)) = some (some (.slice none 0 0), 1, 24) := by kernel_rfl
theorem szIntSS_y (A : Option Addr) (n c : Nat) (L : List (List Int)) (left : Int) (w : World) (ha : Mx w A n L) (hn : n ≤ maxLen) (hr : ∀ (i : Nat) (l : List Int), L[i]? = some l → l.length ≤ maxLen) (h1 : left ≤ 1048576) (h : (n : Int) + sumLen L ≤ left) :
    Calls Try.prog 19 #[.slice A n c, .int .i64 left] w fun e w' => e = .returned (.int .i64 (left - n - sumLen L)) ∧ w = w' := by
  have hl := ha.1
  have HR := Lib.hid hr
  clear hr
  unfold maxLen at hn
  go_enter Try.func19, Try.ntmps19
  go_wp2
  go_loop [1, 5] (fun q i => ∃ k : Nat, k ≤ n ∧ i = .int .i64 k ∧ q = .int .i64 (left - n - sumLen (L.take k))) (fun _ i => n - (intOf i).toNat)
  case atStart => exact ⟨0, by omega, rfl, by simp [sumLen]⟩
  case round =>
    obtain ⟨k, hk, rfl, rfl⟩ := hrel
    by_cases hlt : k < n
    · obtain ⟨b, o, Ai, ci, l, rfl, hlk, c0, hrd⟩ := ha.row k hlt
      have hs := sumLen_succ L k l hlk
      have hle := sumLen_le L (k + 1)
      have hle0 := sumLen_le L k
      have hml := HR.out k l hlk
      have hfin : (left - (n : Int) - sumLen (L.take (k + 1))) = left - n - sumLen (L.take k) - l.length := by omega
      have HF := Lib.hid hfin
      have HS := Lib.hid hs
      have H2 := Lib.hid hl
      rw [hs] at hle
      clear hs hlk hl hfin
      go_wp2_with fail
      refine (szIntS_y Ai l.length ci _ _ hml (by omega) (by omega)).mono ?_
      rintro e w' ⟨rfl, rfl⟩
      go_wp2
      go_round
      case rel => exact ⟨k + 1, by omega, by go_num, by rw [HF.out]⟩
      case measure => simp [intOf]; omega
    · obtain rfl : k = n := by omega
      rw [List.take_of_length_le (by omega)]
      clear hl
      go_wp2
      go_ret
      exact ⟨rfl, rfl⟩
theorem szIntSS_n (A : Option Addr) (n c : Nat) (L : List (List Int)) (left : Int) (w : World) (ha : Mx w A n L) (hn : n ≤ maxLen) (hr : ∀ (i : Nat) (l : List Int), L[i]? = some l → l.length ≤ maxLen) (h0 : 0 ≤ left) (h1 : left ≤ 1048576) (h : ¬ (n : Int) + sumLen L ≤ left) :
    Calls Try.prog 19 #[.slice A n c, .int .i64 left] w fun e w' => e = .returned (.int .i64 (-1)) ∧ w = w' := by
  have hl := ha.1
  have HR := Lib.hid hr
  clear hr
  unfold maxLen at hn
  by_cases hz : (n : Int) ≤ left
  · go_enter Try.func19, Try.ntmps19
    go_wp2
    go_loop [1, 5] (fun q i => ∃ k : Nat, k ≤ n ∧ i = .int .i64 k ∧ q = .int .i64 (left - n - sumLen (L.take k)) ∧ (sumLen (L.take k) : Int) ≤ left - n) (fun _ i => n - (intOf i).toNat)
    case atStart => exact ⟨0, by omega, rfl, by simp [sumLen], by simp [sumLen]; omega⟩
    case round =>
      obtain ⟨k, hk, rfl, rfl, hsl⟩ := hrel
      by_cases hlt : k < n
      · obtain ⟨b, o, Ai, ci, l, rfl, hlk, c0, hrd⟩ := ha.row k hlt
        have hs := sumLen_succ L k l hlk
        have hml := HR.out k l hlk
        have hfin : (left - (n : Int) - sumLen (L.take (k + 1))) = left - n - sumLen (L.take k) - l.length := by omega
        have HF := Lib.hid hfin
        have HS := Lib.hid hs
        have H2 := Lib.hid hl
        clear hs hlk hl hfin
        by_cases hq : (l.length : Int) ≤ left - n - sumLen (L.take k)
        · go_wp2_with fail
          refine (szIntS_y Ai l.length ci _ _ hml (by omega) hq).mono ?_
          rintro e w' ⟨rfl, rfl⟩
          go_wp2
          go_round
          case rel => exact ⟨k + 1, by omega, by go_num, by rw [HF.out], by rw [HS.out]; omega⟩
          case measure => simp [intOf]; omega
        · go_wp2_with fail
          refine (szIntS_n Ai l.length ci _ _ hml (by omega) (by omega) (by omega)).mono ?_
          rintro e w' ⟨rfl, rfl⟩
          go_wp2
          go_ret
          exact ⟨rfl, rfl⟩
      · exfalso
        obtain rfl : k = n := by omega
        rw [List.take_of_length_le (by omega)] at hsl
        omega
  · go_enter Try.func19, Try.ntmps19
    go_wp2
    go_ret
    exact ⟨rfl, rfl⟩
theorem rows_fill (L : List (List Int)) (n k : Nat) (l : List Int) (hl : L[k]? = some l) (hk : k < n) : (L.take k ++ List.replicate (n - k) ([] : List Int)).set k l = L.take (k + 1) ++ List.replicate (n - (k + 1)) [] := by
  have hlt : k < L.length := (List.getElem?_eq_some_iff.1 hl).1
  have e : n - k = (n - (k + 1)) + 1 := by omega
  rw [e, List.replicate_succ, List.set_append_right _ _ (by simp; omega), List.take_add_one, hl]
  simp [Nat.min_eq_left (Nat.le_of_lt hlt)]
theorem toIntSS_c (A : Option Addr) (n c : Nat) (L : List (List Int)) (w : World) (ha : Mx w A n L) (hn : n ≤ 1048576) (hr : Rows L) :
    Calls Try.prog 21 #[.slice A n c] w (MadeMx w n L) := by
  have hl := ha.1
  have HR : Hid (Rows L) := hr
  clear hr
  obtain ⟨i0, hi, hz0, hz1, hz2⟩ := info_parts info_ints
  go_enter Try.func21, Try.ntmps21
  go_wp2_with (at_make; refine wpList_make_full _ rfl _ _ 26 rfl w.heap.size 22 i0 (.slice none 0 0) 1 Try.underlying26 hi hz0 hz1 .i64 .i64 n n n rfl rfl rfl rfl (by rw [hz2]; omega) (by simp only [maxLen]; omega) (Nat.le_refl _) ?_; intro w1 hown hgr)
  have hown' : ∃ vs, OwnMx w1 w.heap.size (some ⟨w.heap.size, 0, none⟩) n n (L.take 0 ++ List.replicate (n - 0) []) vs := by
    refine ⟨List.replicate n (.slice none 0 0), ?_⟩
    rw [List.take_zero, List.nil_append, Nat.sub_zero]
    refine OwnMx.nil_rows _ _ _ _ _ ?_
    have := hown
    rw [show (Value.slice none 0 0).cells = #[.slice none 0 0] from rfl, Nat.mul_one, toList_madeCells_one] at this
    exact this
  have hb0 : Below w.heap.size w w1 := (Below.refl _ _).grown hgr (Nat.le_refl _) (fun k hk => by cases hk)
  clear hown hgr hi hz0 hz1 hz2
  go_loopw [4] (fun i wr => ∃ k : Nat, k ≤ n ∧ i = .int .i64 k ∧ (∃ vs, OwnMx wr w.heap.size (some ⟨w.heap.size, 0, none⟩) n n (L.take k ++ List.replicate (n - k) []) vs) ∧ Below w.heap.size w wr) (fun i _ => n - (intOf i).toNat)
  case atStart => exact ⟨0, by omega, rfl, hown', hb0⟩
  case round =>
    obtain ⟨k, hk, rfl, ⟨vs, hown⟩, hbel⟩ := hrel
    clear hown' hb0
    by_cases hlt : k < n
    · obtain ⟨b, o, Ai, ci, l, rfl, hlk, c0, hrd⟩ := (ha.below hbel).row k hlt
      have hrow := HR.out k l hlk
      have H1 := Lib.hid hlk
      have H2 := Lib.hid hl
      clear hlk hl
      go_wp2_with fail
      refine (toIntS_c Ai l.length ci l _ hrd hrow).mono ?_
      rintro e w2 ⟨A2, c2, rfl, O2, hb2⟩
      have hown2 := hown.kept hb2
      have hfr := hown.fresh O2 (Nat.le_refl _)
      have hput := hown2.put k hlt _ l A2 c2 rfl (own_base O2 hbel.size) hfr
      rw [rows_fill L n k l H1.out hlt] at hput
      have hbel2 : Below w.heap.size w w2 := hbel.trans (hb2.mono hbel.size)
      have hbel3 := hbel2.grown hput.2 hbel2.size (fun k hk => by cases hk; exact Nat.le_refl _)
      have d0 : ∃ u, w2.cell? ⟨w.heap.size, k, none⟩ = some u := ⟨_, (hown2.row.cellAt k (by omega)).trans (List.getElem?_eq_getElem (by have := hown2.vlen; omega))⟩
      obtain ⟨u, d0⟩ := d0
      have z0 : w2.frozen? ⟨w.heap.size, k, none⟩ = false := hown2.row.frozenAt _
      have HS := Lib.hid hput.1
      clear hput c0 hown hb2 hown2 hbel hbel2 hrd O2 hfr
      go_wp2
      go_roundw
      case rel => exact ⟨k + 1, by omega, by go_num, ⟨_, HS.out⟩, hbel3⟩
      case measure => simp [intOf]; omega
    · go_wp2
      go_ret
      obtain rfl : k = n := by omega
      rw [Nat.sub_self, List.take_of_length_le (by omega)] at hown
      exact ⟨_, _, vs, rfl, by simpa using hown, hbel⟩
theorem eqIntS_v {l r : List Int} {v : Bool} (h : decide (l = r) = v) (A B : Option Addr) (n m c d : Nat) (w : World) (ha : Rd w 1 A n (intCells l)) (hb : Rd w 1 B m (intCells r)) (hn : n ≤ 1048576) (hm : m ≤ 1048576) :
    Calls Try.prog 18 #[.slice A n c, .slice B m d] w fun e w' => e = .returned (.bool v) ∧ Below w.heap.size w w' := by
  subst h; exact eqIntS_c A B n m c d l r w ha hb hn hm
theorem eqIntSS_c (A B : Option Addr) (n m c d : Nat) (L R : List (List Int)) (w : World) (ha : Mx w A n L) (hb : Mx w B m R) (hn : n ≤ 1048576) (hm : m ≤ 1048576) (hL : Rows L) (hR : Rows R) :
    Calls Try.prog 23 #[.slice A n c, .slice B m d] w fun e w' => e = .returned (.bool (decide (L = R))) ∧ Below w.heap.size w w' := by
  have hl := ha.1
  have hr := hb.1
  have HL : Hid (Rows L) := hL
  have HR : Hid (Rows R) := hR
  clear hL hR
  by_cases hnm : n = m
  · subst hnm
    go_enter Try.func23, Try.ntmps23
    go_wp2
    go_loopw [5] (fun i wr => ∃ k : Nat, k ≤ n ∧ i = .int .i64 k ∧ Hid (L.take k = R.take k) ∧ Below w.heap.size w wr) (fun i _ => n - (intOf i).toNat)
    case atStart => exact ⟨0, by omega, rfl, rfl, Below.refl _ _⟩
    case round =>
      obtain ⟨k, hk, rfl, heq, hbel⟩ := hrel
      by_cases hlt : k < n
      · obtain ⟨b, o, Ai, ci, l, rfl, hlk, c0, hrd⟩ := (ha.below hbel).row k hlt
        obtain ⟨b', o', Bi, di, r, rfl, hrk, c2, hrd'⟩ := (hb.below hbel).row k hlt
        have hq1 := HL.out k l hlk
        have hq2 := HR.out k r hrk
        have f0 : ∀ x : Ext wr, x.w.cell? _ = _ := fun x => (x.cell (World.block_lt_of_cell? _ _ c0)).trans c0
        have f2 : ∀ x : Ext wr, x.w.cell? _ = _ := fun x => (x.cell (World.block_lt_of_cell? _ _ c2)).trans c2
        have H1 := Lib.hid hlk
        have H2 := Lib.hid hrk
        have H3 := Lib.hid hl
        have H4 := Lib.hid hr
        clear c0 c2 hlk hrk hl hr
        cases hs : decide (l = r)
        all_goals
          have H5 := Lib.hid hs
          clear hs
          go_wp2_with fail
          refine wp_region_ext (by kernel_rfl) (by kernel_rfl) ?_
          repeat (go_big_quiet_step ((go_at_call 18; exact Ext.call _ (eqIntS_v H5.out _ _ _ _ _ _ _ (hrd.below (Ext.below _)) (hrd'.below (Ext.below _)) hq1 hq2))))
          refine wpQuiet_nil ?_
          intro w1 hw'
          have hb1 := Ext.out hw'
          clear hw' f0 f2 hrd hrd'
          go_wp2
        · go_ret
          refine ⟨?_, hbel.trans (hb1.mono hbel.size)⟩
          have hne : L ≠ R := by
            rintro rfl
            have e := H1.out.symm.trans H2.out
            simp only [Option.some.injEq] at e
            simpa [e] using H5.out
          simp [hne]
        · go_roundw
          case rel =>
            refine ⟨k + 1, by omega, by go_num, ?_, hbel.trans (hb1.mono hbel.size)⟩
            show L.take (k + 1) = R.take (k + 1)
            rw [List.take_add_one, List.take_add_one, heq.out, H1.out, H2.out, of_decide_eq_true H5.out]
          case measure => simp [intOf]; omega
      · go_wp2
        go_ret
        refine ⟨?_, hbel⟩
        obtain rfl : k = n := by omega
        have e := heq.out
        rw [List.take_of_length_le (by omega), List.take_of_length_le (by omega)] at e
        simp [e]
  · have h0 : ((n : Int) == m) = false := by simp; omega
    go_enter Try.func23, Try.ntmps23
    go_wp2
    go_ret
    have hne : L ≠ R := by rintro rfl; omega
    exact ⟨by simp [hne], Below.refl _ _⟩
theorem eqIntSS_t (A B : Option Addr) (n c d : Nat) (L : List (List Int)) (w : World) (ha : Mx w A n L) (hb : Mx w B n L) (hn : n ≤ 1048576) (hL : Rows L) :
    Calls Try.prog 23 #[.slice A n c, .slice B n d] w fun e w' => e = .returned (.bool true) ∧ Below w.heap.size w w' := by
  have := eqIntSS_c A B n n c d L L w ha hb hn hn hL hL
  rwa [decide_eq_true rfl] at this
def marksMx (m : Int) : List (List Int) → List (List Int)
  | [] => []
  | l :: r => marksInt m l.length :: marksMx (m + l.length) r
theorem marksMx_len (m : Int) (L : List (List Int)) : (marksMx m L).length = L.length := by
  induction L generalizing m with
  | nil => rfl
  | cons l r ih => simp [marksMx, ih]
theorem marksMx_at (m : Int) (L : List (List Int)) (k : Nat) (l : List Int) (h : L[k]? = some l) : (marksMx m L)[k]? = some (marksInt (m + sumLen (L.take k)) l.length) := by
  induction L generalizing m k with
  | nil => simp at h
  | cons a r ih =>
    cases k with
    | zero =>
      simp only [List.getElem?_cons_zero, Option.some.injEq] at h
      subst h
      simp [marksMx, sumLen]
    | succ k =>
      have := ih (m + a.length) k (by simpa using h)
      simp only [marksMx, List.getElem?_cons_succ, this, List.take_succ_cons]
      congr 2
      simp only [sumLen, List.map_cons, List.sum_cons]
      omega
theorem marksMx_fill (m : Int) (L : List (List Int)) (k : Nat) (l : List Int) (h : L[k]? = some l) :
    ((marksMx m L).take k ++ L.drop k).set k (marksInt (m + sumLen (L.take k)) l.length) = (marksMx m L).take (k + 1) ++ L.drop (k + 1) := by
  have hlt : k < L.length := (List.getElem?_eq_some_iff.1 h).1
  have hm := marksMx_len m L
  have e : ((marksMx m L).take k).length = k := by rw [List.length_take, hm]; omega
  rw [List.set_append_right _ _ (by omega), e, Nat.sub_self, List.drop_eq_getElem_cons hlt, List.set_cons_zero, List.take_add_one, marksMx_at m L k l h]
  simp
theorem markIntSS_c (A : Option Addr) (n c : Nat) (L : List (List Int)) (vs : List Value) (m : Int) (base : Nat) (w : World) (ho : OwnMx w base A n c L vs) (hn : n ≤ 1048576) (hr : Rows L) (hs : sumLen L ≤ 2097152) (hm : 0 ≤ m) (hm' : m ≤ 2305843009213693952) :
    Calls Try.prog 26 #[.slice A n c, .int .i64 m] w fun e w' => e = .returned (.int .i64 (m + sumLen L)) ∧ OwnMx w' base A n c (marksMx m L) vs ∧ GrownS w w' (inRows vs) := by
  have hl := ho.len
  have HR : Hid (Rows L) := hr
  clear hr
  go_enter Try.func26, Try.ntmps26
  go_wp2
  go_loopw [1, 5] (fun q i wr => ∃ k : Nat, k ≤ n ∧ i = .int .i64 k ∧ q = .int .i64 (m + sumLen (L.take k)) ∧ OwnMx wr base A n c ((marksMx m L).take k ++ L.drop k) vs ∧ GrownS w wr (inRows vs)) (fun _ i _ => n - (intOf i).toNat)
  case atStart => exact ⟨0, by omega, rfl, by simp [sumLen], by simpa using ho, GrownS.refl _ _⟩
  case round =>
    obtain ⟨k, hk, rfl, rfl, hown, hgr⟩ := hrel
    by_cases hlt : k < n
    · obtain ⟨g, rfl⟩ := own_at hown.row (by omega)
      have hv : vs[k]? = some (vs[k]'(by have := hown.vlen; omega)) := List.getElem?_eq_getElem _
      have hlk : L[k]? = some (L[k]'(by omega)) := List.getElem?_eq_getElem _
      generalize vs[k]'(by have := hown.vlen; omega) = v at hv
      generalize L[k]'(by omega) = l at hlk
      have hcur : ((marksMx m L).take k ++ L.drop k)[k]? = some l := by
        have := marksMx_len m L
        rw [List.getElem?_append_right (by simp; omega), List.length_take, Nat.min_eq_left (by omega), Nat.sub_self, List.getElem?_drop]
        simpa using hlk
      obtain ⟨Ai, ci, rfl, hrow⟩ := hown.rows k v l hv hcur
      have c0 : wr.cell? ⟨g, k, none⟩ = some (.slice Ai l.length ci) := (hown.row.cellAt k (by omega)).trans hv
      have hq := HR.out k l hlk
      have hsl := sumLen_le L k
      have hfin : m + (sumLen (L.take (k + 1)) : Int) = m + sumLen (L.take k) + l.length := by rw [sumLen_succ L k l hlk]; omega
      have hfill := marksMx_fill m L k l hlk
      have HV := Lib.hid hv
      have HC := Lib.hid hcur
      have HF := Lib.hid hfin
      have HG := Lib.hid hfill
      have H2 := Lib.hid hl
      clear hv hcur hfin hfill hlk hl
      go_wp2_with fail
      refine (markIntS_c Ai l.length ci l _ base _ hrow hq (by omega) (by omega)).mono ?_
      rintro e w2 ⟨rfl, O2, hg2⟩
      have hW := hown.row_written k _ HV.out (marksInt (m + sumLen (L.take k)) l.length) (fun l' hl' => by
        rw [HC.out] at hl'
        injection hl' with hl'
        rw [marksInt_length, hl']) (by rw [marksInt_length]; exact O2) hg2
      rw [HG.out] at hW
      have hgr2 := hgr.trans hW.2
      have HW := Lib.hid hW.1
      clear hW O2 hg2 hgr hown hrow c0
      go_wp2
      go_roundw
      case rel => exact ⟨k + 1, by omega, by go_num, by rw [HF.out], HW.out, hgr2⟩
      case measure => simp [intOf]; omega
    · obtain rfl : k = n := by omega
      rw [List.take_of_length_le (by omega)]
      have hm2 := marksMx_len m L
      rw [List.take_of_length_le (by omega), List.drop_of_length_le (by omega), List.append_nil] at hown
      clear hl hm2
      go_wp2
      go_ret
      exact ⟨rfl, hown, hgr⟩
theorem heldIntSS_c (A : Option Addr) (n c : Nat) (L : List (List Int)) (m : Int) (w : World) (ha : Mx w A n (marksMx m L)) (hn : n ≤ 1048576) (hr : Rows L) (hs : sumLen L ≤ 2097152) (hm : 0 ≤ m) (hm' : m ≤ 2305843009213693952) :
    Calls Try.prog 27 #[.slice A n c, .int .i64 m] w fun e w' => e = .returned (.int .i64 (m + sumLen L)) ∧ w = w' := by
  have hl : L.length = n := by have := ha.1; rw [marksMx_len] at this; exact this
  have HR : Hid (Rows L) := hr
  clear hr
  go_enter Try.func27, Try.ntmps27
  go_wp2
  go_loop [1, 5] (fun q i => ∃ k : Nat, k ≤ n ∧ i = .int .i64 k ∧ q = .int .i64 (m + sumLen (L.take k))) (fun _ i => n - (intOf i).toNat)
  case atStart => exact ⟨0, by omega, rfl, by simp [sumLen]⟩
  case round =>
    obtain ⟨k, hk, rfl, rfl⟩ := hrel
    by_cases hlt : k < n
    · obtain ⟨b, o, Ai, ci, l', rfl, hlk', c0, hrd⟩ := ha.row k hlt
      have hlk : L[k]? = some (L[k]'(by omega)) := List.getElem?_eq_getElem _
      generalize L[k]'(by omega) = l at hlk
      rw [marksMx_at m L k l hlk] at hlk'
      injection hlk' with hlk'
      subst hlk'
      rw [marksInt_length] at c0 hrd
      have hq := HR.out k l hlk
      have hsl := sumLen_le L k
      have hfin : m + (sumLen (L.take (k + 1)) : Int) = m + sumLen (L.take k) + l.length := by rw [sumLen_succ L k l hlk]; omega
      have HF := Lib.hid hfin
      have H2 := Lib.hid hl
      clear hfin hlk hl
      go_wp2_with fail
      refine (heldIntS_c Ai l.length ci _ _ hrd hq (by omega) (by omega)).mono ?_
      rintro e w' ⟨rfl, rfl⟩
      go_wp2
      go_round
      case rel => exact ⟨k + 1, by omega, by go_num, by rw [HF.out]⟩
      case measure => simp [intOf]; omega
    · obtain rfl : k = n := by omega
      rw [List.take_of_length_le (by omega)]
      clear hl
      go_wp2
      go_ret
      exact ⟨rfl, rfl⟩
end Go.Proofs.Ytjgphiialfhdlaa
