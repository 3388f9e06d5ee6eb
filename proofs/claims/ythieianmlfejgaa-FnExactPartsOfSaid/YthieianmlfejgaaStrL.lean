/- Contracts of the laws' own functions on slices of strings: compare, mark, hold. The slices hold at most 1000 strings. -/
import Derived.Test.YthieianmlfejgaaDec
import Derived.Test.YthieianmlfejgaaQuiet
import Derived.Deep.RegionWith
import Derived.Deep.RegionHeld3
import Derived.Deep.DeepCutAuto
namespace Go.Proofs.Ythieianmlfejgaa
open Go.RowKit
set_option linter.unusedVariables false
set_option linter.unusedSimpArgs false
set_option maxHeartbeats 1000000

def strCells (l : List (List UInt8)) : List Value := l.map strOf
theorem strCells_length (l : List (List UInt8)) : (strCells l).length = l.length := by simp [strCells]
theorem strCells_append (l r : List (List UInt8)) : strCells (l ++ r) = strCells l ++ strCells r := by simp [strCells]
theorem strs_len {w : World} {A : Option Addr} {n : Nat} {l : List (List UInt8)} (h : Rd w 1 A n (strCells l)) : l.length = n := by
  have := h.len
  simp [strCells] at this
  omega
theorem Rd.strAt {w : World} {A : Option Addr} {n : Nat} {l : List (List UInt8)} (h : Rd w 1 A n (strCells l)) (k : Nat) (hk : k < n) :
    ∃ b o p, A = some ⟨b, o, none⟩ ∧ l[k]? = some p ∧ w.cell? ⟨b, o + k, none⟩ = some (.string ⟨p.toArray⟩) := by
  obtain ⟨b, o, e, hc⟩ := h.2 (by omega)
  have hl := strs_len h
  exact ⟨b, o, l[k], e, by rw [List.getElem?_eq_getElem (by omega)], hc k _ (by simp [strCells, strOf, List.getElem?_eq_getElem (show k < l.length by omega)])⟩
def marksStr (m n : Nat) : List (List UInt8) := (List.range n).map fun (i : Nat) => 109 :: dd (m + i)
theorem info_str : (Try.prog.info? 9).map (fun i => (i.zero, i.size, i.bytes)) = some (some (.string ⟨#[]⟩), 1, 16) := by kernel_rfl
theorem marksStr_length (m n : Nat) : (marksStr m n).length = n := by simp [marksStr]
theorem marksStr_at (m n i : Nat) (h : i < n) : (marksStr m n)[i]? = some (109 :: dd (m + i)) := by simp [marksStr, h]
theorem marksStr_fill (l : List (List UInt8)) (n k m : Nat) (hl : l.length = n) (hk : k < n) : (marksStr m k ++ l.drop k).set k (109 :: dd (m + k)) = marksStr m (k + 1) ++ l.drop (k + 1) := by
  have hm : marksStr m (k + 1) = marksStr m k ++ [109 :: dd (m + k)] := by simp [marksStr, List.range_succ]
  rw [List.set_append_right _ _ (by rw [marksStr_length]; exact Nat.le_refl _), marksStr_length, Nat.sub_self, List.drop_eq_getElem_cons (by omega), List.set_cons_zero, hm]
  simp
theorem strCells_set (l : List (List UInt8)) (k : Nat) (p : List UInt8) : (strCells l).set k (strOf p) = strCells (l.set k p) := by simp [strCells, List.map_set]
theorem own_str_at {w : World} {base n cap g : Nat} {e : TypeId} {l : List (List UInt8)} (h : w.ownsRow base e 1 (.slice (some ⟨g, 0, none⟩) n cap) n (strCells l)) (k : Nat) (hk : k < n) :
    ∃ p, l[k]? = some p ∧ w.cell? ⟨g, k, none⟩ = some (.string ⟨p.toArray⟩) ∧ w.frozen? ⟨g, k, none⟩ = false := by
  have hl : l.length = n := by have := h.1; rw [strCells_length] at this; omega
  refine ⟨l[k], by rw [List.getElem?_eq_getElem (by omega)], (h.cellAt k (by omega)).trans ?_, h.frozenAt _⟩
  simp [strCells, strOf, List.getElem?_eq_getElem (show k < l.length by omega)]
theorem own_str_set {w : World} {base n cap g : Nat} {e : TypeId} {l : List (List UInt8)} (h : w.ownsRow base e 1 (.slice (some ⟨g, 0, none⟩) n cap) n (strCells l)) (k : Nat) (p : List UInt8) :
    (w.setCell ⟨g, k, none⟩ (.string ⟨p.toArray⟩)).ownsRow base e 1 (.slice (some ⟨g, 0, none⟩) n cap) n (strCells (l.set k p)) ∧ w.grownBy (w.setCell ⟨g, k, none⟩ (.string ⟨p.toArray⟩)) (some g) := by
  have a := h.stored k (strOf p)
  rw [strCells_set] at a
  exact a

theorem eqStringS_t (A B : Option Addr) (n c d : Nat) (l : List (List UInt8)) (w : World) (ha : Rd w 1 A n (strCells l)) (hb : Rd w 1 B n (strCells l)) (hn : n ≤ 1048576) :
    Calls Try.prog 14 #[.slice A n c, .slice B n d] w fun e w' => e = .returned (.bool true) ∧ Below w.heap.size w w' := by
  have hl := strs_len ha
  go_enter Try.func14, Try.ntmps14
  go_wp2
  go_loopw [5] (fun i wr => ∃ k : Nat, k ≤ n ∧ i = .int .i64 k ∧ Below w.heap.size w wr) (fun i _ => n - (intOf i).toNat)
  case atStart => exact ⟨0, by omega, rfl, Below.refl _ _⟩
  case round =>
    obtain ⟨k, hk, rfl, hbel⟩ := hrel
    by_cases hlt : k < n
    · obtain ⟨b, o, p, rfl, hlk, c0⟩ := (ha.below hbel).strAt k hlt
      obtain ⟨b', o', p', rfl, hrk, c2⟩ := (hb.below hbel).strAt k hlt
      have hpp := hlk.symm.trans hrk
      injection hpp with hpp
      subst hpp
      have f0 : ∀ x : Ext wr, x.w.cell? _ = _ := fun x => (x.cell (World.block_lt_of_cell? _ _ c0)).trans c0
      have f2 : ∀ x : Ext wr, x.w.cell? _ = _ := fun x => (x.cell (World.block_lt_of_cell? _ _ c2)).trans c2
      clear c0 c2 hlk hrk hl
      go_wp2_with fail
      refine wp_region_ext (by kernel_rfl) (by kernel_rfl) ?_
      repeat (go_big_quiet_step (fail))
      refine wpQuiet_nil ?_
      intro w1 hw'
      have hb1 := Ext.out hw'
      clear hw' f0 f2
      go_wp2
      go_roundw
      case rel => exact ⟨k + 1, by omega, by go_num, hbel.trans (hb1.mono hbel.size)⟩
      case measure => simp [intOf]; omega
    · go_wp2
      go_ret
      exact ⟨rfl, hbel⟩
theorem markStringS_c (A : Option Addr) (n c : Nat) (l : List (List UInt8)) (m base : Nat) (w : World) (ho : w.ownsRow base 9 1 (.slice A n c) n (strCells l)) (hn : n ≤ 1000) (hm : 0 < m) (hm' : m ≤ 1000) :
    Calls Try.prog 15 #[.slice A n c, .int .i64 (m : Int)] w fun e w' => e = .returned (.int .i64 ((m + n : Nat) : Int)) ∧ w'.ownsRow base 9 1 (.slice A n c) n (strCells (marksStr m n)) ∧ w.grownBy w' (Value.slice A n c).ownBlock := by
  have hl : l.length = n := by have := ho.1; rw [strCells_length] at this; omega
  go_enter Try.func15, Try.ntmps15
  go_wp2
  go_loopw [1, 5] (fun q i wr => ∃ k j : Nat, k ≤ n ∧ j = m + k ∧ i = .int .i64 k ∧ q = .int .i64 (j : Int) ∧ wr.ownsRow base 9 1 (.slice A n c) n (strCells (marksStr m k ++ l.drop k)) ∧ w.grownBy wr (Value.slice A n c).ownBlock) (fun _ i _ => n - (intOf i).toNat)
  case atStart => exact ⟨0, m, by omega, by omega, rfl, rfl, by simpa [marksStr] using ho, World.grownBy.refl _ _⟩
  case round =>
    obtain ⟨k, j, hk, hj, rfl, rfl, hown, hgr⟩ := hrel
    by_cases hlt : k < n
    · obtain ⟨g, rfl⟩ := own_at hown (by omega)
      have hfill := marksStr_fill l n k m hl hlt
      rw [← hj] at hfill
      have HF := Lib.hid hfill
      have H3 := Lib.hid hj
      have hj0 : 0 < j := by omega
      have hj1 : j ≤ 4611686018427387904 := by omega
      clear hfill hj
      go_wp2_with fail
      refine (markText_c j hj0 hj1 _).mono ?_
      rintro e w1 ⟨rfl, hb1⟩
      have own1 := own_kept hown hb1
      have hgr1 := grown_trans hgr ⟨hb1.os, hb1.tape, hb1.output, hb1.size, fun i hi _ => hb1.block i hi⟩
      obtain ⟨p', -, d0, z0⟩ := own_str_at own1 k hlt
      have hS := own_str_set own1 k (109 :: dd j)
      rw [HF.out] at hS
      have hgr3 := Lib.hid (grown_trans hgr1 hS.2)
      have HS := Lib.hid hS
      have H2 := Lib.hid hl
      clear hS hown hgr hgr1 own1 hl hb1
      go_wp2
      go_roundw
      case rel => exact ⟨k + 1, j + 1, by omega, by have := H3.out; omega, by go_num, by go_num, HS.out.1, hgr3.out⟩
      case measure => simp [intOf]; omega
    · go_wp2
      go_ret
      obtain rfl : k = n := by omega
      refine ⟨by subst hj; rfl, ?_, hgr⟩
      rw [List.drop_of_length_le (by omega)] at hown
      simpa using hown
theorem heldStringS_c (A : Option Addr) (n c m : Nat) (w : World) (ha : Rd w 1 A n (strCells (marksStr m n))) (hn : n ≤ 1000) (hm : 0 < m) (hm' : m ≤ 1000) :
    Calls Try.prog 16 #[.slice A n c, .int .i64 (m : Int)] w fun e w' => e = .returned (.int .i64 ((m + n : Nat) : Int)) ∧ Below w.heap.size w w' := by
  go_enter Try.func16, Try.ntmps16
  go_wp2
  go_loopw [1, 5] (fun q i wr => ∃ k j : Nat, k ≤ n ∧ j = m + k ∧ i = .int .i64 k ∧ q = .int .i64 (j : Int) ∧ Below w.heap.size w wr) (fun _ i _ => n - (intOf i).toNat)
  case atStart => exact ⟨0, m, by omega, by omega, rfl, rfl, Below.refl _ _⟩
  case round =>
    obtain ⟨k, j, hk, hj, rfl, rfl, hbel⟩ := hrel
    by_cases hlt : k < n
    · obtain ⟨b, o, p, rfl, hlk, c0⟩ := (ha.below hbel).strAt k hlt
      rw [marksStr_at m n k hlt] at hlk
      simp only [Option.some.injEq] at hlk
      subst hlk
      rw [← hj] at c0
      have f0 : ∀ x : Ext wr, x.w.cell? _ = _ := fun x => (x.cell (World.block_lt_of_cell? _ _ c0)).trans c0
      have hmk0 : 0 < j := by omega
      have hmk1 : j ≤ 4611686018427387904 := by omega
      have H3 := Lib.hid hj
      clear c0 hj
      go_wp2_with fail
      refine wp_region_ext (by kernel_rfl) (by kernel_rfl) ?_
      repeat (go_big_quiet_step ((go_at_call 37; exact Ext.call _ (markText_c j hmk0 hmk1 _))))
      refine wpQuiet_nil ?_
      intro w1 hw'
      have hb1 := Ext.out hw'
      clear hw' f0
      go_wp2
      go_roundw
      case rel => exact ⟨k + 1, j + 1, by omega, by have := H3.out; omega, by go_num, by go_num, hbel.trans (hb1.mono hbel.size)⟩
      case measure => simp [intOf]; omega
    · go_wp2
      go_ret
      obtain rfl : k = n := by omega
      exact ⟨by subst hj; rfl, hbel⟩
end Go.Proofs.Ythieianmlfejgaa
