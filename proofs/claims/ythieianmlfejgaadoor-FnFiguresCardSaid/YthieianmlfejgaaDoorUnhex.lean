/- Contracts of Unhex. Condition: the text holds at most 40000 bytes, an even number; else the other contracts. -/
import Derived.Test.YthieianmlfejgaaDoorHex
import Derived.Test.YthieianmlfejgaaDoorQuiet
namespace Go.Proofs.YthieianmlfejgaaDoor
open Go.RowKit
set_option linter.unusedVariables false
set_option linter.unusedSimpArgs false
set_option maxHeartbeats 1000000

def nib (b : UInt8) : Int := if 48 ≤ b.toNat ∧ b.toNat ≤ 57 then (b.toNat : Int) - 48 else if 97 ≤ b.toNat ∧ b.toNat ≤ 102 then (b.toNat : Int) - 87 else -1
theorem nib_range (b : UInt8) : nib b = -1 ∨ 0 ≤ nib b ∧ nib b < 16 := by
  unfold nib
  split
  · right; omega
  · split
    · right; omega
    · left; rfl
def unhexL : List UInt8 → Option (List UInt8)
  | [] => some []
  | [_] => none
  | a :: b :: r => if nib a < 0 ∨ nib b < 0 then none else (unhexL r).map (UInt8.ofNat (16 * nib a + nib b).toNat :: ·)
def unhexV (l : List UInt8) : Value := match unhexL l with
  | some t => .tuple #[.string ⟨t.toArray⟩, .bool true]
  | none => .tuple #[.string ⟨#[]⟩, .bool false]
theorem drop_two {l : List UInt8} {j : Nat} (h : 2 * j + 1 < l.length) : l.drop (2 * j) = l[2 * j]'(by omega) :: l[2 * j + 1]'h :: l.drop (2 * (j + 1)) := by
  rw [List.drop_eq_getElem_cons (by omega), List.drop_eq_getElem_cons (by omega)]
  rfl
/-- What stands in the row behind j rounds. -/
def UnTo (l : List UInt8) (j : Nat) (out : List UInt8) : Prop := out.length = j ∧ unhexL l = (unhexL (l.drop (2 * j))).map (out ++ ·)
theorem UnTo.zero (l : List UInt8) : UnTo l 0 [] := ⟨rfl, by simp⟩
theorem UnTo.bad {l out : List UInt8} {j : Nat} (h : UnTo l j out) (hj : 2 * j + 1 < l.length) (hn : nib (l[2 * j]'(by omega)) < 0 ∨ nib (l[2 * j + 1]'hj) < 0) : unhexL l = none := by
  rw [h.2, drop_two hj, unhexL, if_pos hn]
  rfl
theorem UnTo.next {l out : List UInt8} {j : Nat} (h : UnTo l j out) (hj : 2 * j + 1 < l.length) (hn : ¬ (nib (l[2 * j]'(by omega)) < 0 ∨ nib (l[2 * j + 1]'hj) < 0)) :
    UnTo l (j + 1) (out ++ [UInt8.ofNat (16 * nib (l[2 * j]'(by omega)) + nib (l[2 * j + 1]'hj)).toNat]) := by
  refine ⟨by simp [h.1], ?_⟩
  rw [h.2, drop_two hj, unhexL, if_neg hn, Option.map_map]
  congr 1
  funext t
  simp
theorem UnTo.done {l out : List UInt8} {j : Nat} (h : UnTo l j out) (hj : l.length = 2 * j) : unhexL l = some out := by
  rw [h.2, List.drop_of_length_le (by omega)]
  simp [unhexL]
theorem nibble_c (b : UInt8) (w : World) : Calls Tryd.prog 21 #[.int .u8 (b.toNat : Int)] w fun e w' => e = .returned (.int .i64 (nib b)) ∧ w = w' := by
  have h256 := b.toNat_lt
  unfold nib
  by_cases h1 : 48 ≤ b.toNat ∧ b.toNat ≤ 57
  · rw [if_pos h1]
    obtain ⟨h1, h2⟩ := h1
    go_enter Tryd.func21, Tryd.ntmps21
    go_wp2
    go_ret
    exact ⟨by first | rfl | (show Ending.returned (Value.int IntKind.i64 ((b.toNat : Int) - 97 + 10)) = _; rw [he]), rfl⟩
  · rw [if_neg h1]
    by_cases h2 : 97 ≤ b.toNat ∧ b.toNat ≤ 102
    · rw [if_pos h2]
      obtain ⟨h3, h4⟩ := h2
      have he : ((b.toNat : Int) - 97 + 10) = (b.toNat : Int) - 87 := by omega
      go_enter Tryd.func21, Tryd.ntmps21
      go_wp2
      go_ret
      exact ⟨by first | rfl | (show Ending.returned (Value.int IntKind.i64 ((b.toNat : Int) - 97 + 10)) = _; rw [he]), rfl⟩
    · rw [if_neg h2]
      have hc : b.toNat < 48 ∨ (57 < b.toNat ∧ b.toNat < 97) ∨ 102 < b.toNat := by omega
      rcases hc with hc | ⟨hc, hd⟩ | hc
      all_goals
        go_enter Tryd.func21, Tryd.ntmps21
        go_wp2
        go_ret
        exact ⟨rfl, rfl⟩
theorem nibble_v {b : UInt8} {x : Int} (h : nib b = x) (w : World) : Calls Tryd.prog 21 #[.int .u8 (b.toNat : Int)] w fun e w' => e = .returned (.int .i64 x) ∧ w = w' := h ▸ nibble_c b w
theorem iUnhex_2 (s : ByteArray) (w : World) (hm : s.size ≤ 1048576) (hs : 40000 < s.size ∨ s.size % 2 = 1) :
    Calls Tryd.prog 13 #[.string s] w fun e w' => e = .returned (.tuple #[.string ⟨#[]⟩, .bool false]) ∧ Below w.heap.size w w' := by
  by_cases h1 : s.size % 2 = 1
  · have hmod2 : (s.size : Int) % 2 = 1 := by omega
    go_enter Tryd.func13, Tryd.ntmps13
    go_wp2
    go_returns
    exact ⟨rfl, Below.refl _ _⟩
  · have hmod2 : (s.size : Int) % 2 = 0 := by omega
    go_enter Tryd.func13, Tryd.ntmps13
    go_wp2
    go_returns
    exact ⟨rfl, Below.refl _ _⟩
theorem or16 (x y : Int) (hx : 0 ≤ x ∧ x < 16) (hy : 0 ≤ y ∧ y < 16) : bits BinOp.or IntKind.i64 (x * 16) y = 16 * x + y := by
  have : ∀ i j : Fin 16, bits BinOp.or IntKind.i64 (((i.val : Nat) : Int) * 16) ((j.val : Nat) : Int) = 16 * ((i.val : Nat) : Int) + ((j.val : Nat) : Int) := by decide +kernel
  have h := this ⟨x.toNat, by omega⟩ ⟨y.toNat, by omega⟩
  simpa [Int.toNat_of_nonneg hx.1, Int.toNat_of_nonneg hy.1] using h
theorem iUnhex_1 (s : ByteArray) (m : Nat) (w : World) (hs : s.size ≤ 40000) (hm : s.size = 2 * m) :
    Calls Tryd.prog 13 #[.string s] w fun e w' => e = .returned (unhexV s.data.toList) ∧ Below w.heap.size w w' := by
  obtain ⟨i0, hi, hz0, hz1, hz2⟩ := info_parts info_byte
  have hmod3 : (s.size : Int) % 2 = 0 := by omega
  go_enter Tryd.func13, Tryd.ntmps13
  go_wp2_with (at_make; go_loud (refine wpList_make_own _ rfl _ _ 27 rfl w.heap.size 5 i0 (.int .u8 0) 1 Tryd.underlying27 hi hz0 hz1 .i64 .i64 _ m rfl rfl (by omega) (by rw [hz2]; omega) (by simp only [maxLen]; omega) (Nat.le_refl _) ?_); intro w1 hown hgr; refine Hid.out ?_)
  refine Lib.hid ?_
  have hlit := Lib.hid hown
  have hb0 : Hid (Below w.heap.size w w1) := Lib.hid ((Below.refl _ _).grown hgr (Nat.le_refl _) (fun k hk => by cases hk))
  clear hown hgr hmod3
  go_wp2
  go_loopw [4, 5] (fun v i wr => ∃ (j : Nat) (G : Option Addr) (cc : Nat) (out : List UInt8), j ≤ m ∧ i = .int .i64 (2 * (j : Int)) ∧ v = .slice G j cc ∧ Hid (UnTo s.data.toList j out) ∧ Hid (wr.ownsRow w.heap.size 5 1 (.slice G j cc) j (bCells out)) ∧ Hid (Below w.heap.size w wr)) (fun _ i _ => s.size - (intOf i).toNat)
  case atStart => exact ⟨0, _, _, [], by omega, rfl, rfl, Lib.hid (UnTo.zero _), hlit, hb0⟩
  case round =>
    obtain ⟨j, G, cc, out, hj, rfl, rfl, HU, hown, hbel⟩ := hrel
    clear hlit hb0
    by_cases hlt : j < m
    · have hl : s.data.toList.length = s.size := by simp
      have hj1 : 2 * j + 1 < s.size := by omega
      have hj0 : 2 * j < s.size := by omega
      obtain ⟨x, hx⟩ : ∃ x, nib (s.data.toList[2 * j]'(by omega)) = x := ⟨_, rfl⟩
      obtain ⟨y, hy⟩ : ∃ y, nib (s.data.toList[2 * j + 1]'(by omega)) = y := ⟨_, rfl⟩
      have rx := nib_range (s.data.toList[2 * j]'(by omega))
      have ry := nib_range (s.data.toList[2 * j + 1]'(by omega))
      rw [hx] at rx
      rw [hy] at ry
      have hx' : Hid (nib (s[2 * j]'hj0) = x) := Lib.hid hx
      have hy' : Hid (nib (s[2 * j + 1]'hj1) = y) := Lib.hid hy
      have HL := Lib.hid hl
      have hA : 2 * (j : Int) < 2 * (m : Int) := by omega
      have hA2 : (j : Int) < (m : Int) := by omega
      have hB : (2 * (j : Int)).toNat = 2 * j := by omega
      have hC : IntKind.i64.wrap (2 * (j : Int) + 1) = 2 * (j : Int) + 1 := IntWalk.i64_in _ (by omega)
      have hD : 2 * (j : Int) + 1 < 2 * (m : Int) := by omega
      have hE : (2 * (j : Int) + 1).toNat = 2 * j + 1 := by omega
      have hF : (0 : Int) ≤ 2 * (j : Int) + 1 := by omega
      have hG : (0 : Int) ≤ 2 * (j : Int) := by omega
      have hH : 2 * (j : Int) < (s.size : Int) := by omega
      have hI : 2 * (j : Int) + 1 < (s.size : Int) := by omega
      go_wp2_with fail
      refine wp_region_ext (by kernel_rfl) (by kernel_rfl) ?_
      repeat (go_big_quiet_step ((go_at_call 21; first | (with_reducible exact Ext.same _ (nibble_v hx'.out _)) | (with_reducible exact Ext.same _ (nibble_v hy'.out _)))))
      refine wpQuiet_nil ?_
      intro w2 hw'
      have hb2 := Ext.out hw'
      have hown2 := Lib.hid (own_kept hown.out hb2)
      have hbel2 := Lib.hid (hbel.out.trans (hb2.mono hbel.out.size))
      clear hw' hb2 hown hbel
      by_cases hbad : x < 0 ∨ y < 0
      · have HV : Hid (unhexV s.data.toList = .tuple #[.string ⟨#[]⟩, .bool false]) := Lib.hid (by
          have := HU.out.bad (by omega) (by rw [hx, hy]; exact hbad)
          rw [unhexV, this])
        clear hx hy hl HU hown2
        by_cases hx0 : x < 0
        all_goals
          go_wp2
          go_returns
          exact ⟨by rw [HV.out]; rfl, hbel2.out⟩
      · have hb2 : ¬ x < 0 ∧ ¬ y < 0 := by omega
        obtain ⟨hx0, hy0⟩ := hb2
        have rx' : 0 ≤ x ∧ x < 16 := by omega
        have ry' : 0 ≤ y ∧ y < 16 := by omega
        have HN := Lib.hid (HU.out.next (by omega) (by rw [hx, hy]; exact hbad))
        rw [hx, hy] at HN
        obtain ⟨z, hz⟩ : ∃ z : Nat, 16 * x + y = z := Int.eq_ofNat_of_zero_le (by omega)
        have hz256 : z < 256 := by omega
        have hor := or16 x y rx' ry'
        rw [hz] at HN hor
        clear hx hy hl HU hbad rx ry
        go_wp2_with (at_builtin; go_loud (refine wpList_append_own _ rfl _ _ 27 rfl w.heap.size 5 i0 (.int .u8 0) 1 1 Tryd.underlying27 hi hz0 hz1 hz2 rfl (by decide) (.slice G j cc) j (bCells out) rfl (hown2.out.alloc _) ⟨w2.heap.size, 0, none⟩ 1 1 [.int .u8 (z : Int)] rfl rfl (new_one w2 #[.int .u8 (z : Int)] _) (by intro u hu; simp at hu; subst hu; rfl) (by unfold maxLen; omega) (by omega) (by have := hbel2.out.size; simp; omega) ?_); intro v' w3 hown3 hgr3 hx3; refine Hid.out ?_)
        refine Lib.hid ?_
        have hbl3 := Lib.hid (below_grown (hbel2.out.alloc hbel2.out.size _) (hown2.out.alloc _) (Nat.le_refl _) hgr3)
        obtain ⟨G', cc', rfl⟩ := own_shape hown3
        have hu8 : ((UInt8.ofNat (z : Int).toNat).toNat : Int) = (z : Int) := by simp; omega
        have HO : Hid (w3.ownsRow w.heap.size 5 1 (.slice G' (j + 1) cc') (j + 1) (bCells (out ++ [UInt8.ofNat (z : Int).toNat]))) := Lib.hid (by rw [bCells_append]; simp only [bCells, List.map_cons, List.map_nil, hu8]; exact hown3)
        clear hown3 hgr3 hx3 hown2 hbel2 hu8
        go_wp2
        go_roundw
        case rel => exact ⟨j + 1, G', cc', _, by omega, by go_num, rfl, HN, HO, hbl3⟩
        case measure => simp [intOf]; omega
    · obtain rfl : m = j := by omega
      have hl : s.data.toList.length = 2 * m := by simpa using hm
      have HV : Hid (unhexV s.data.toList = .tuple #[.string ⟨out.toArray⟩, .bool true]) := Lib.hid (by rw [unhexV, HU.out.done hl])
      have hconv := conv_own hown.out
      clear hl HU hown
      go_wp2
      go_returns
      exact ⟨by rw [HV.out]; rfl, hbel.out⟩
end Go.Proofs.YthieianmlfejgaaDoor
