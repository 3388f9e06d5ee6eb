/- The law FnFigures returns true for every input: what Hex and Decimal write is read back, what is brought between is between and stays. The package-level variables of strconv are as the program's text lays them (the card ties them to it). -/
import Derived.Test.YthieianmlfejgaaDoorRows
import Derived.Test.YthieianmlfejgaaDoorCards
import Derived.Test.YthieianmlfejgaaDoorTie
import Derived.Test.YthieianmlfejgaaDoorOpenB
import Derived.Test.YthieianmlfejgaaDoorFig
import Derived.WalkKit
import Derived.ProofKit
import Derived.OpenShut
import Derived.ShutString
import Derived.ChangeOld
import Derived.Below
import Derived.Handy
import Derived.Carry
import Derived.Lib.SmallJoins
import Derived.WalkLawsBesides
import Derived.WalkSpells
import Derived.LaidMore
import Derived.Stop.Joined
import Derived.Lib.ItoaLen
import Derived.BigQuiet
import Derived.Deep.QuietTactic
import Derived.Outline
import Derived.Deep.RegionWith
import Derived.Deep.RegionHeld3
import Derived.Deep.DeepCutAuto
import Derived.SevenTiedAt
namespace Go.Proofs.YthieianmlfejgaaDoor.fnFigures
open Go.ChangeShapes Go.WideShapes Go.ChangeAt Go.RowKit
open Go.ChangeMaps (open_string shut_string)
set_option linter.unusedVariables false
set_option linter.unusedSimpArgs false

theorem brought_v {n a b x : Int} (h : brought n a b = x) (w : World) : Calls Tryd.prog 14 #[.int .i64 n, .int .i64 a, .int .i64 b] w fun e w' => e = .returned (.int .i64 x) ∧ w = w' := h ▸ iBrought_c n a b w
set_option maxHeartbeats 40000000 in
set_option maxRecDepth 20000 in
theorem walk (a0 : Option Addr) (len0 cap0 : Nat) (l0 : Nat) (w : World) (h0 : Bytes w w.heap.size a0 len0 ∧ len0 ≤ maxLen) (hL : laidMet Tryd.prog Rows.fnFiguresRow.laid w) :
    Calls Tryd.prog 5 #[.slice a0 len0 cap0] w fun e w' => e = .returned (.bool true) ∧ Below w.heap.size w w' := by
  obtain ⟨hb, hm⟩ := h0
  have HT := Lib.hid (tab_of_laid hL.tail.tail)
  obtain ⟨ep, hv⟩ := sentinel_of hL.tail.tail.tail.tail
  have HE := Lib.hid hv
  clear hL hv
  by_cases hbig : 1048576 < len0
  · go_enter Tryd.func5, Tryd.ntmps5
    go_wp2_with fail
    refine (big_c _ _ _ _ hm).mono ?_
    rintro e w' ⟨rfl, rfl⟩
    rw [decide_eq_true hbig]
    go_wp2
    go_ret
    exact ⟨rfl, Below.refl _ _⟩
  have hle : len0 ≤ 1048576 := by omega
  have HB := Lib.hid hb
  clear hb
  go_enter Tryd.func5, Tryd.ntmps5
  go_wp2_with fail
  refine (big_c _ _ _ _ hm).mono ?_
  rintro e w' ⟨rfl, rfl⟩
  rw [decide_eq_false hbig]
  clear hbig hm
  have B0 := Below.refl w.heap.size w
  go_wp2_with fail
  refine (DrawPlaces_c a0 len0 cap0 _ HB.out hle).mono ?_
  rintro e w1 ⟨G, cc, l, rfl, hl, hr, hown, hb⟩
  have RG := Lib.hid (Rd.of_own hown)
  have HR := Lib.hid hr
  clear hown hr
  have HT1 := Lib.hid (tab_below HT.out hb)
  have HE1 := Lib.hid (var_below HE.out hb)
  clear HT HE
  have B1 := B0.trans (hb.mono B0.size)
  clear B0
  have HB1 := Lib.hid (HB.out.grow hb)
  clear HB
  clear hb
  clear HB1
  obtain ⟨bG, oG, rfl, hcG⟩ := RG.out.2 (by omega)
  obtain ⟨y0, g0, n0⟩ : ∃ y : Int, w1.cell? ⟨bG, oG + 0, none⟩ = some (.int .i64 y) ∧ (0 ≤ y ∧ y ≤ 9999) := ⟨_, hcG 0 (.int .i64 (l[0]'(by omega))) (by simp [intCells, List.getElem?_eq_getElem (show 0 < l.length by omega)]), HR.out _ (List.getElem_mem (show 0 < l.length by omega))⟩
  obtain ⟨y1, g1, n1⟩ : ∃ y : Int, w1.cell? ⟨bG, oG + 1, none⟩ = some (.int .i64 y) ∧ (0 ≤ y ∧ y ≤ 9999) := ⟨_, hcG 1 (.int .i64 (l[1]'(by omega))) (by simp [intCells, List.getElem?_eq_getElem (show 1 < l.length by omega)]), HR.out _ (List.getElem_mem (show 1 < l.length by omega))⟩
  obtain ⟨y2, g2, n2⟩ : ∃ y : Int, w1.cell? ⟨bG, oG + 2, none⟩ = some (.int .i64 y) ∧ (0 ≤ y ∧ y ≤ 9999) := ⟨_, hcG 2 (.int .i64 (l[2]'(by omega))) (by simp [intCells, List.getElem?_eq_getElem (show 2 < l.length by omega)]), HR.out _ (List.getElem_mem (show 2 < l.length by omega))⟩
  obtain ⟨y3, g3, n3⟩ : ∃ y : Int, w1.cell? ⟨bG, oG + 3, none⟩ = some (.int .i64 y) ∧ (0 ≤ y ∧ y ≤ 9999) := ⟨_, hcG 3 (.int .i64 (l[3]'(by omega))) (by simp [intCells, List.getElem?_eq_getElem (show 3 < l.length by omega)]), HR.out _ (List.getElem_mem (show 3 < l.length by omega))⟩
  obtain ⟨y4, g4, n4⟩ : ∃ y : Int, w1.cell? ⟨bG, oG + 4, none⟩ = some (.int .i64 y) ∧ (0 ≤ y ∧ y ≤ 9999) := ⟨_, hcG 4 (.int .i64 (l[4]'(by omega))) (by simp [intCells, List.getElem?_eq_getElem (show 4 < l.length by omega)]), HR.out _ (List.getElem_mem (show 4 < l.length by omega))⟩
  obtain ⟨y5, g5, n5⟩ : ∃ y : Int, w1.cell? ⟨bG, oG + 5, none⟩ = some (.int .i64 y) ∧ (0 ≤ y ∧ y ≤ 9999) := ⟨_, hcG 5 (.int .i64 (l[5]'(by omega))) (by simp [intCells, List.getElem?_eq_getElem (show 5 < l.length by omega)]), HR.out _ (List.getElem_mem (show 5 < l.length by omega))⟩
  obtain ⟨y6, g6, n6⟩ : ∃ y : Int, w1.cell? ⟨bG, oG + 6, none⟩ = some (.int .i64 y) ∧ (0 ≤ y ∧ y ≤ 9999) := ⟨_, hcG 6 (.int .i64 (l[6]'(by omega))) (by simp [intCells, List.getElem?_eq_getElem (show 6 < l.length by omega)]), HR.out _ (List.getElem_mem (show 6 < l.length by omega))⟩
  obtain ⟨y7, g7, n7⟩ : ∃ y : Int, w1.cell? ⟨bG, oG + 7, none⟩ = some (.int .i64 y) ∧ (0 ≤ y ∧ y ≤ 9999) := ⟨_, hcG 7 (.int .i64 (l[7]'(by omega))) (by simp [intCells, List.getElem?_eq_getElem (show 7 < l.length by omega)]), HR.out _ (List.getElem_mem (show 7 < l.length by omega))⟩
  rw [Nat.add_zero] at g0
  clear hcG hl HR RG
  obtain ⟨c6, hc6⟩ : ∃ c : UInt8, (c.toNat : Int) = y6 % 256 := ⟨UInt8.ofNat (y6 % 256).toNat, by simp; omega⟩
  obtain ⟨c7, hc7⟩ : ∃ c : UInt8, (c.toNat : Int) = y7 % 256 := ⟨UInt8.ofNat (y7 % 256).toNat, by simp; omega⟩
  have hw6 : IntKind.u8.wrap y6 = (c6.toNat : Int) := by rw [IntKind.wrap_u8, hc6]
  have hw7 : IntKind.u8.wrap y7 = (c7.toNat : Int) := by rw [IntKind.wrap_u8, hc7]
  clear hc6 hc7
  obtain ⟨dt, hdt⟩ : ∃ d : ByteArray, (⟨(Lib.itoa y5).toArray⟩ : ByteArray) = d := ⟨_, rfl⟩
  have hdz : dt.size ≤ 21 := by rw [← hdt]; have := Lib.itoa_length_le y5 (by omega) (by omega); simpa [ByteArray.size] using this
  have HDC : Hid (∀ W, Lib.TabIs Tryd.prog W tabName .u64 Lib.pow10Tab → Calls Tryd.prog 9 #[.int .i64 y5] W fun e w' => e = .returned (.string dt) ∧ Below W.heap.size W w') := Lib.hid fun W h => hdt ▸ iDecimal_c y5 (by omega) (by omega) W h
  have HDT := Lib.hid hdt
  clear hdt
  have hcv : ∀ W : World, (convert 27 9 (.slice (some ⟨W.heap.size, 0, none⟩) 2 2)).run Tryd.prog (W.alloc (.cells #[.int .u8 (c6.toNat : Int), .int .u8 (c7.toNat : Int)] 5)) = .ok (.string ⟨#[c6, c7]⟩) (W.alloc (.cells #[.int .u8 (c6.toNat : Int), .int .u8 (c7.toNat : Int)] 5)) := fun W => conv_own (l := [c6, c7]) (World.ownsRow_lit (base := W.heap.size) (e := 5) (size := 1) W #[.int .u8 (c6.toNat : Int), .int .u8 (c7.toNat : Int)] 2 (Nat.le_refl _) (by unfold maxLen; omega) (by simp))
  have hcd : ∀ W : World, (convert 27 9 (.slice (some ⟨W.heap.size, 0, none⟩) 2 2)).run Tryd.prog (W.alloc (.cells #[.int .u8 (c6.toNat : Int), .int .u8 (c7.toNat : Int)] 5)).drew = .ok (.string ⟨#[c6, c7]⟩) (W.alloc (.cells #[.int .u8 (c6.toNat : Int), .int .u8 (c7.toNat : Int)] 5)).drew := fun W => conv_own (l := [c6, c7]) (show (W.alloc (.cells #[.int .u8 (c6.toNat : Int), .int .u8 (c7.toNat : Int)] 5)).drew.ownsRow W.heap.size 5 1 _ 2 _ from World.ownsRow_lit (base := W.heap.size) (e := 5) (size := 1) W #[.int .u8 (c6.toNat : Int), .int .u8 (c7.toNat : Int)] 2 (Nat.le_refl _) (by unfold maxLen; omega) (by simp))
  have hz2 : (⟨#[c6, c7]⟩ : ByteArray).size = 2 := rfl
  go_upto_region 4 with fail
  go_cut [4] (fun c wc => c = .string (dt ++ ⟨#[c6, c7]⟩) ∧ Below w1.heap.size w1 wc)
  case first =>
    have hD := (Below.refl w1.heap.size w1).drew
    have hDA := ((Below.refl w1.heap.size w1).alloc (Nat.le_refl _) (.cells #[.int .u8 (c6.toNat : Int), .int .u8 (c7.toNat : Int)] 5)).drew
    have TD : Hid (Lib.TabIs Tryd.prog w1.drew tabName .u64 Lib.pow10Tab) := Lib.hid HT1.out
    have TA := Lib.hid (tab_below HT1.out hDA)
    have HOA : Hid ((w1.alloc (.cells #[.int .u8 (c6.toNat : Int), .int .u8 (c7.toNat : Int)] 5)).drew.ownsRow w1.heap.size 5 1 (.slice (some ⟨w1.heap.size, 0, none⟩) 2 2) 2 (bCells [c6, c7])) := Lib.hid (World.ownsRow_lit (base := w1.heap.size) (e := 5) (size := 1) w1 #[.int .u8 (c6.toNat : Int), .int .u8 (c7.toNat : Int)] 2 (Nat.le_refl _) (by unfold maxLen; omega) (by simp))
    have d5 : w1.drew.cell? ⟨bG, oG + 5, none⟩ = some (.int .i64 y5) := g5
    have e5 := below_keep hDA _ _ g5
    have d6 : w1.drew.cell? ⟨bG, oG + 6, none⟩ = some (.int .i64 y6) := g6
    have e6 := below_keep hDA _ _ g6
    have d7 : w1.drew.cell? ⟨bG, oG + 7, none⟩ = some (.int .i64 y7) := g7
    have e7 := below_keep hDA _ _ g7
    clear n0 g0 n1 g1 n2 g2 n3 g3 n4 g4 n5 g5 n6 g6 n7 g7
    go_region_with (first | (go_at_call 9; first | ((with_reducible refine (HDC.out _ TD.out).mono ?_); rintro e wx ⟨rfl, hb⟩; have hB := hD.trans (hb.mono hD.size); have f5 := below_keep hb _ _ d5; have f6 := below_keep hb _ _ d6; have f7 := below_keep hb _ _ d7; have hXA := (Below.refl wx.heap.size wx).alloc (Nat.le_refl _) (.cells #[.int .u8 (c6.toNat : Int), .int .u8 (c7.toNat : Int)] 5); have k5 := below_keep hXA _ _ f5; have k6 := below_keep hXA _ _ f6; have k7 := below_keep hXA _ _ f7) | ((with_reducible refine (HDC.out _ TA.out).mono ?_); rintro e wx ⟨rfl, hb⟩; have hB := hDA.trans (hb.mono hDA.size); have f5 := below_keep hb _ _ e5; have f6 := below_keep hb _ _ e6; have f7 := below_keep hb _ _ e7; have hcx := conv_own (l := [c6, c7]) (own_kept HOA.out hb); have hXA := (Below.refl wx.heap.size wx).alloc (Nat.le_refl _) (.cells #[.int .u8 (c6.toNat : Int), .int .u8 (c7.toNat : Int)] 5); have k5 := below_keep hXA _ _ f5; have k6 := below_keep hXA _ _ f6; have k7 := below_keep hXA _ _ f7)))
    all_goals (go_wp2_with fail; go_meet; first | exact ⟨rfl, hB⟩ | exact ⟨rfl, hB.alloc hB.size _⟩)
  case rest =>
  obtain ⟨rfl, hb⟩ := hcut
  obtain ⟨w2, hwc⟩ : ∃ x, x = wc := ⟨_, rfl⟩
  subst hwc
  clear hcv hcd hw6 hw7
  have HT2 := Lib.hid (tab_below HT1.out hb)
  have HE2 := Lib.hid (var_below HE1.out hb)
  clear HT1 HE1
  have B2 := B1.trans (hb.mono B1.size)
  clear B1
  have c2_0 := below_keep hb _ _ g0
  clear g0
  have c2_1 := below_keep hb _ _ g1
  clear g1
  have c2_2 := below_keep hb _ _ g2
  clear g2
  have c2_3 := below_keep hb _ _ g3
  clear g3
  have c2_4 := below_keep hb _ _ g4
  clear g4
  have c2_5 := below_keep hb _ _ g5
  clear g5
  have c2_6 := below_keep hb _ _ g6
  clear g6
  have c2_7 := below_keep hb _ _ g7
  clear g7
  clear hb
  obtain ⟨t, ht⟩ : ∃ t : ByteArray, dt ++ ⟨#[c6, c7]⟩ = t := ⟨_, rfl⟩
  have htz : t.size ≤ 23 := by rw [← ht, ByteArray.size_append]; have e : (⟨#[c6, c7]⟩ : ByteArray).size = 2 := rfl; omega
  rw [ht]
  clear ht HDC HDT
  go_wp2_with fail
  refine (iHex_1 t _ (by omega)).mono ?_
  rintro e w3 ⟨rfl, hb⟩
  have HT3 := Lib.hid (tab_below HT2.out hb)
  have HE3 := Lib.hid (var_below HE2.out hb)
  clear HT2 HE2
  have B3 := B2.trans (hb.mono B2.size)
  clear B2
  have c3_0 := below_keep hb _ _ c2_0
  clear c2_0
  have c3_1 := below_keep hb _ _ c2_1
  clear c2_1
  have c3_2 := below_keep hb _ _ c2_2
  clear c2_2
  have c3_3 := below_keep hb _ _ c2_3
  clear c2_3
  have c3_4 := below_keep hb _ _ c2_4
  clear c2_4
  have c3_5 := below_keep hb _ _ c2_5
  clear c2_5
  have c3_6 := below_keep hb _ _ c2_6
  clear c2_6
  have c3_7 := below_keep hb _ _ c2_7
  clear c2_7
  clear hb
  obtain ⟨hx, hhx⟩ : ∃ x : ByteArray, (⟨(hexL t.data.toList).toArray⟩ : ByteArray) = x := ⟨_, rfl⟩
  have hxs : hx.size = 2 * t.size := by rw [← hhx]; show (hexL t.data.toList).toArray.size = 2 * t.size; rw [List.size_toArray, hexL_length]; rfl
  have hun : unhexV hx.data.toList = .tuple #[.string t, .bool true] := by rw [← hhx]; unfold unhexV; rw [show (⟨(hexL t.data.toList).toArray⟩ : ByteArray).data.toList = hexL t.data.toList by simp, unhex_hex]
  have HUN := Lib.hid hun
  rw [hhx]
  clear hhx hun
  go_wp2_with fail
  refine (iUnhex_1 hx t.size _ (by omega) hxs).mono ?_
  rintro e w4 ⟨rfl, hb⟩
  rw [HUN.out]
  have HT4 := Lib.hid (tab_below HT3.out hb)
  have HE4 := Lib.hid (var_below HE3.out hb)
  clear HT3 HE3
  have B4 := B3.trans (hb.mono B3.size)
  clear B3
  have c4_0 := below_keep hb _ _ c3_0
  clear c3_0
  have c4_1 := below_keep hb _ _ c3_1
  clear c3_1
  have c4_2 := below_keep hb _ _ c3_2
  clear c3_2
  have c4_3 := below_keep hb _ _ c3_3
  clear c3_3
  have c4_4 := below_keep hb _ _ c3_4
  clear c3_4
  have c4_5 := below_keep hb _ _ c3_5
  clear c3_5
  have c4_6 := below_keep hb _ _ c3_6
  clear c3_6
  have c4_7 := below_keep hb _ _ c3_7
  clear c3_7
  clear hb
  obtain ⟨n, hn⟩ : ∃ n : Nat, y0 * 10000 + y1 = n := Int.eq_ofNat_of_zero_le (by omega)
  have hn9 : n ≤ 1000000000 := by omega
  have hwa : IntKind.i64.wrap (y0 * 10000) = y0 * 10000 := IntWalk.i64_in _ (by omega)
  have hwb : IntKind.i64.wrap (n : Int) = (n : Int) := IntWalk.i64_in _ (by omega)
  have xc4_0 : ∀ x : Ext w4, x.w.cell? _ = _ := fun x => (x.cell (World.block_lt_of_cell? _ _ c4_0)).trans c4_0
  have xc4_1 : ∀ x : Ext w4, x.w.cell? _ = _ := fun x => (x.cell (World.block_lt_of_cell? _ _ c4_1)).trans c4_1
  have xc4_2 : ∀ x : Ext w4, x.w.cell? _ = _ := fun x => (x.cell (World.block_lt_of_cell? _ _ c4_2)).trans c4_2
  have xc4_3 : ∀ x : Ext w4, x.w.cell? _ = _ := fun x => (x.cell (World.block_lt_of_cell? _ _ c4_3)).trans c4_3
  have xc4_4 : ∀ x : Ext w4, x.w.cell? _ = _ := fun x => (x.cell (World.block_lt_of_cell? _ _ c4_4)).trans c4_4
  have xc4_5 : ∀ x : Ext w4, x.w.cell? _ = _ := fun x => (x.cell (World.block_lt_of_cell? _ _ c4_5)).trans c4_5
  have xc4_6 : ∀ x : Ext w4, x.w.cell? _ = _ := fun x => (x.cell (World.block_lt_of_cell? _ _ c4_6)).trans c4_6
  have xc4_7 : ∀ x : Ext w4, x.w.cell? _ = _ := fun x => (x.cell (World.block_lt_of_cell? _ _ c4_7)).trans c4_7
  go_wp2_with fail
  refine wp_region_ext (by kernel_rfl) (by kernel_rfl) ?_
  repeat (go_big_quiet_step ((fail)))
  refine wpQuiet_nil ?_
  intro w5 hw'
  have hb := Ext.out hw'
  clear hw' xc4_0 xc4_1 xc4_2 xc4_3 xc4_4 xc4_5 xc4_6 xc4_7
  have HT5 := Lib.hid (tab_below HT4.out hb); have HE5 := Lib.hid (var_below HE4.out hb); clear HT4 HE4 hwa hwb
  have B5 := B4.trans (hb.mono B4.size)
  clear B4
  have c5_0 := below_keep hb _ _ c4_0
  clear c4_0
  have c5_1 := below_keep hb _ _ c4_1
  clear c4_1
  have c5_2 := below_keep hb _ _ c4_2
  clear c4_2
  have c5_3 := below_keep hb _ _ c4_3
  clear c4_3
  have c5_4 := below_keep hb _ _ c4_4
  clear c4_4
  have c5_5 := below_keep hb _ _ c4_5
  clear c4_5
  have c5_6 := below_keep hb _ _ c4_6
  clear c4_6
  have c5_7 := below_keep hb _ _ c4_7
  clear c4_7
  clear hb
  go_wp2_with fail
  refine (iDecimal_c (n : Int) (by omega) (by omega) _ HT5.out).mono ?_
  rintro e w6 ⟨rfl, hb⟩
  have HT6 := Lib.hid (tab_below HT5.out hb)
  have HE6 := Lib.hid (var_below HE5.out hb)
  clear HT5 HE5
  have B6 := B5.trans (hb.mono B5.size)
  clear B5
  have c6_0 := below_keep hb _ _ c5_0
  clear c5_0
  have c6_1 := below_keep hb _ _ c5_1
  clear c5_1
  have c6_2 := below_keep hb _ _ c5_2
  clear c5_2
  have c6_3 := below_keep hb _ _ c5_3
  clear c5_3
  have c6_4 := below_keep hb _ _ c5_4
  clear c5_4
  have c6_5 := below_keep hb _ _ c5_5
  clear c5_5
  have c6_6 := below_keep hb _ _ c5_6
  clear c5_6
  have c6_7 := below_keep hb _ _ c5_7
  clear c5_7
  clear hb
  obtain ⟨ds, hds⟩ : ∃ x : ByteArray, (⟨(Lib.itoa (n : Int)).toArray⟩ : ByteArray) = x := ⟨_, rfl⟩
  have hdsz : ds.size ≤ 1048576 := by rw [← hds]; have := Lib.itoa_length_le (n : Int) (by omega) (by omega); show (Lib.itoa (n : Int)).toArray.size ≤ 1048576; rw [List.size_toArray]; omega
  have hrd : rdV ds.data.toList = .tuple #[.int .i64 (n : Int), .bool true] := by rw [← hds]; unfold rdV; rw [show (⟨(Lib.itoa (n : Int)).toArray⟩ : ByteArray).data.toList = Lib.itoa (n : Int) by simp, read_dec n hn9]
  have HRD := Lib.hid hrd
  rw [hds]
  clear hds hrd
  go_wp2_with fail
  refine (iReadDecimal_c ds _ hdsz HT6.out _ ep HE6.out).mono ?_
  rintro e w7 ⟨rfl, hb⟩
  rw [HRD.out]
  have B7 := B6.trans (hb.mono B6.size)
  clear B6
  have c7_0 := below_keep hb _ _ c6_0
  clear c6_0
  have c7_1 := below_keep hb _ _ c6_1
  clear c6_1
  have c7_2 := below_keep hb _ _ c6_2
  clear c6_2
  have c7_3 := below_keep hb _ _ c6_3
  clear c6_3
  have c7_4 := below_keep hb _ _ c6_4
  clear c6_4
  have c7_5 := below_keep hb _ _ c6_5
  clear c6_5
  have c7_6 := below_keep hb _ _ c6_6
  clear c6_6
  have c7_7 := below_keep hb _ _ c6_7
  clear c6_7
  clear hb
  clear HT6 HE6 HRD hdsz HUN
  obtain ⟨bb, hbb⟩ : ∃ x, brought (y2 - 5000) (-y3) y4 = x := ⟨_, rfl⟩
  have hlaw := brought_law (y2 - 5000) (-y3) y4 (by omega)
  rw [hbb] at hlaw
  obtain ⟨hl1, hl2, hl3⟩ := hlaw
  have HB1 := Lib.hid hbb
  have HB2 := Lib.hid hl3
  clear hbb hl3
  have hwc : IntKind.i64.wrap (y2 - 5000) = y2 - 5000 := IntWalk.i64_in _ (by omega)
  have hwd : IntKind.i64.wrap (-y3) = -y3 := IntWalk.i64_in _ (by omega)
  have xc7_0 : ∀ x : Ext w7, x.w.cell? _ = _ := fun x => (x.cell (World.block_lt_of_cell? _ _ c7_0)).trans c7_0
  have xc7_1 : ∀ x : Ext w7, x.w.cell? _ = _ := fun x => (x.cell (World.block_lt_of_cell? _ _ c7_1)).trans c7_1
  have xc7_2 : ∀ x : Ext w7, x.w.cell? _ = _ := fun x => (x.cell (World.block_lt_of_cell? _ _ c7_2)).trans c7_2
  have xc7_3 : ∀ x : Ext w7, x.w.cell? _ = _ := fun x => (x.cell (World.block_lt_of_cell? _ _ c7_3)).trans c7_3
  have xc7_4 : ∀ x : Ext w7, x.w.cell? _ = _ := fun x => (x.cell (World.block_lt_of_cell? _ _ c7_4)).trans c7_4
  have xc7_5 : ∀ x : Ext w7, x.w.cell? _ = _ := fun x => (x.cell (World.block_lt_of_cell? _ _ c7_5)).trans c7_5
  have xc7_6 : ∀ x : Ext w7, x.w.cell? _ = _ := fun x => (x.cell (World.block_lt_of_cell? _ _ c7_6)).trans c7_6
  have xc7_7 : ∀ x : Ext w7, x.w.cell? _ = _ := fun x => (x.cell (World.block_lt_of_cell? _ _ c7_7)).trans c7_7
  go_wp2_with fail
  refine wp_region_ext (by kernel_rfl) (by kernel_rfl) ?_
  repeat (go_big_quiet_step ((go_at_call 14; exact Ext.same _ (brought_v HB1.out _))))
  refine wpQuiet_nil ?_
  intro w8 hw'
  have hb := Ext.out hw'
  clear hw' xc7_0 xc7_1 xc7_2 xc7_3 xc7_4 xc7_5 xc7_6 xc7_7
  have B8 := B7.trans (hb.mono B7.size)
  clear B7
  have c8_0 := below_keep hb _ _ c7_0
  clear c7_0
  have c8_1 := below_keep hb _ _ c7_1
  clear c7_1
  have c8_2 := below_keep hb _ _ c7_2
  clear c7_2
  have c8_3 := below_keep hb _ _ c7_3
  clear c7_3
  have c8_4 := below_keep hb _ _ c7_4
  clear c7_4
  have c8_5 := below_keep hb _ _ c7_5
  clear c7_5
  have c8_6 := below_keep hb _ _ c7_6
  clear c7_6
  have c8_7 := below_keep hb _ _ c7_7
  clear c7_7
  clear hb
  have q1 : (t.toList == t.toList) = true := by simp
  have q2 : ((hx.size : Int) == 2 * (t.size : Int)) = true := by rw [hxs]; simp
  have q3 : IntKind.i64.wrap (2 * (t.size : Int)) = 2 * (t.size : Int) := IntWalk.i64_in _ (by omega)
  have q4 : ((n : Int) == (n : Int)) = true := by simp
  have q5 : decide (-y3 ≤ bb) = true := decide_eq_true hl1
  have q6 : decide (bb ≤ y4) = true := decide_eq_true hl2
  have q7 : (bb == bb) = true := by simp
  clear hxs hl1 hl2 hwc HB1 hn hn9 htz n0 n1 n2 n3 n4 n5 n6 n7
  have xc8_0 : ∀ x : Ext w8, x.w.cell? _ = _ := fun x => (x.cell (World.block_lt_of_cell? _ _ c8_0)).trans c8_0
  have xc8_1 : ∀ x : Ext w8, x.w.cell? _ = _ := fun x => (x.cell (World.block_lt_of_cell? _ _ c8_1)).trans c8_1
  have xc8_2 : ∀ x : Ext w8, x.w.cell? _ = _ := fun x => (x.cell (World.block_lt_of_cell? _ _ c8_2)).trans c8_2
  have xc8_3 : ∀ x : Ext w8, x.w.cell? _ = _ := fun x => (x.cell (World.block_lt_of_cell? _ _ c8_3)).trans c8_3
  have xc8_4 : ∀ x : Ext w8, x.w.cell? _ = _ := fun x => (x.cell (World.block_lt_of_cell? _ _ c8_4)).trans c8_4
  have xc8_5 : ∀ x : Ext w8, x.w.cell? _ = _ := fun x => (x.cell (World.block_lt_of_cell? _ _ c8_5)).trans c8_5
  have xc8_6 : ∀ x : Ext w8, x.w.cell? _ = _ := fun x => (x.cell (World.block_lt_of_cell? _ _ c8_6)).trans c8_6
  have xc8_7 : ∀ x : Ext w8, x.w.cell? _ = _ := fun x => (x.cell (World.block_lt_of_cell? _ _ c8_7)).trans c8_7
  go_wp2_with fail
  refine wp_region_ext (by kernel_rfl) (by kernel_rfl) ?_
  repeat (go_big_quiet_step ((go_at_call 14; exact Ext.same _ (brought_v HB2.out _))))
  refine wpQuiet_nil ?_
  intro w9 hw'
  have hb := Ext.out hw'
  clear hw' xc8_0 xc8_1 xc8_2 xc8_3 xc8_4 xc8_5 xc8_6 xc8_7
  have B9 := B8.trans (hb.mono B8.size)
  clear B8
  have c9_0 := below_keep hb _ _ c8_0
  clear c8_0
  have c9_1 := below_keep hb _ _ c8_1
  clear c8_1
  have c9_2 := below_keep hb _ _ c8_2
  clear c8_2
  have c9_3 := below_keep hb _ _ c8_3
  clear c8_3
  have c9_4 := below_keep hb _ _ c8_4
  clear c8_4
  have c9_5 := below_keep hb _ _ c8_5
  clear c8_5
  have c9_6 := below_keep hb _ _ c8_6
  clear c8_6
  have c9_7 := below_keep hb _ _ c8_7
  clear c8_7
  clear hb
  go_wp2
  go_ret
  exact ⟨rfl, B9⟩

/-! ### The row's step -/
theorem own : ownKnob Tryd.prog.godebug = none := by kernel_rfl
theorem laidOut : laidOutB Tryd.prog = true := by kernel_rfl
/-- The heap that the program's own initialisers leave meets the condition. -/
theorem door_met (os : Os) (args : Array Value) : laidMetH Tryd.prog Rows.fnFiguresRow.laid ((World.doorLaid Tryd.prog 62 os).forCall (fun _ _ => 0) ⟨#[], args, []⟩).memory :=
  laidMetH_of_parts3 (fuel := 8) (laidMet_of_run' 8 (by kernel_rfl) (by kernel_rfl)) (by kernel_rfl) (by kernel_rfl)
set_option maxRecDepth 100000 in
theorem lifted (os : Os) (started : os.Started) (H : Type) (enc : TypeId × Value → H) :
    ReturnsInHanded {} Tryd.checked os 5 .any (fun w args => (Rows.fnFiguresSpec.pre enc Tryd.prog Tryd.f5 [] false w args ∧ laidMetH Tryd.prog Rows.fnFiguresRow.laid w) ∧ sizedMet enc Tryd.prog Tryd.f5 (OpenSpec.ofChange Rows.fnFiguresSpec) false w args)
      (Rows.fnFiguresSpec.post enc Tryd.prog Tryd.f5 false true false false) := by
  refine returnsInHanded_of_change_and (C := Tryd.checked) (X := fun w _ => laidMetH Tryd.prog Rows.fnFiguresRow.laid w) (fun _ _ _ hh h => h.of_heap hh) own started (by kernel_rfl) Tryd.func5
    (ChangeSpec.witness_shaped (enc := enc) (C := Tryd.checked) (os := os) (X := fun w _ => laidMetH Tryd.prog Rows.fnFiguresRow.laid w) false (World.doorLaid Tryd.prog 62 os) #[.slice none 0 0] 8 rfl (World.shaped_of_RefB (by kernel_rfl) (by kernel_rfl)) (by kernel_rfl) (by kernel_rfl) (by kernel_rfl) (door_met os _)) ?_
  intro W base args ds gs before hval0 hW hcnd _ hL0 _
  have hval : ∀ (j : Nat) t v, Tryd.f5.params[j]? = some t → args[j]? = some v → Value.okWide Tryd.prog W .any base t v := hval0
  have hW' := hW
  obtain ⟨p, q, hA0, hV, rfl, hfz, hnd⟩ := hW
  have hA : DataW.TrodAll enc Tryd.prog W 0 (fun _ => true) true Tryd.f5.params.toList args.toList ds p := hA0
  rw [Tryd.params5] at hA hval
  obtain ⟨v0, vs0, d0, ds0, p0, q0, hargs, rfl, rfl, h0, r0⟩ := trodAll_cons hA
  obtain ⟨rfl, rfl, rfl⟩ := trodAll_nil r0
  obtain rfl : args = #[v0] := by cases args; simp_all
  obtain ⟨rfl, rfl⟩ := trodVars_none hV
  have k0 := h0
  have lt0 : ∀ x ∈ p0, x.block < W.heap.size := by obtain ⟨m, hm⟩ := k0; exact DataW.trod_lt m _ _ _ hm
  obtain ⟨a0, len0, cap0, rfl⟩ := okWide_slice Tryd.underlying27 (hval 0 27 v0 rfl rfl)
  obtain ⟨l0, w0⟩ := opn_bytes k0
  have hL : laidMet Tryd.prog Rows.fnFiguresRow.laid W := by
    have h : laidMetH Tryd.prog Rows.fnFiguresRow.laid W := hL0
    rwa [MakeChecks.laidMetH_plain _ _ _ (by kernel_rfl)] at h
  clear hA0 hval0 hL0
  refine (walk a0 len0 cap0 l0 W w0 hL).mono fun e W' ⟨he, bel⟩ => ?_
  subst he
  exact ⟨_, rfl, _, _, _, [], _, [], hW', trodAll_mk1 (shut_bool Tryd.underlying4 _), (trodAll_cons_mk (Below.trod laidOut (by kernel_rfl) (of_decide_eq_true (by kernel_rfl)) k0 bel lt0) trodAll_mk0), rfl, bel.frame _, fun h => by cases h⟩

theorem over : Rows.FnFiguresSaid :=
  OpenClaim.holds_of_wide 5 Tryd.f5 rfl rfl rfl rfl rfl rfl rfl ⟨rfl, rfl, rfl, rfl, rfl⟩ rfl rfl rfl rfl rfl (by kernel_rfl) Tryd.func5 (by kernel_rfl)
    (of_decide_eq_true (by kernel_rfl)) (by unfold Func.isWrapper; first | (rw [if_pos (by decide +kernel)]; kernel_rfl) | (rw [if_neg (by decide +kernel)]; exact ⟨rfl, rfl⟩))
    (fun os started H enc _ => lifted os started H enc)

/-- The statement: the tied card. -/
theorem proved : Rows.FnFiguresCardSaid :=
  Claim7.holds_tied_plain_at .later [] [.data, .data, .data, .sentinel, .sentinel] true Rows.fnFiguresCard.stood.harness true
    over (fun _ h => by cases h) (by kernel_rfl) (fun _ h => by cases h) fnFigures_row_tie rfl ⟨rfl, rfl⟩ (by kernel_rfl) rfl
    (fun f fn hf hfn => by
      obtain rfl : f = 5 := Option.some.inj ((show Tryd.prog.funcNamed Rows.fnFiguresRow.func = some 5 by kernel_rfl).symm.trans hf) |>.symm
      obtain rfl : fn = Tryd.f5 := (Option.some.inj (Tryd.func5.symm.trans hfn)).symm
      exact ⟨by kernel_rfl, fun j t ht => by
        rw [Tryd.params5] at ht
        have hm : t ∈ [27] := by simpa using Array.mem_of_getElem? ht
        have hall : ([27].all fun u => !Tryd.prog.wantsStandIn u) = true := by kernel_rfl
        exact (show Tryd.prog.wantsStandIn t = false by simpa using List.all_eq_true.1 hall t hm)⟩)
    (by kernel_rfl)
#print axioms proved
end Go.Proofs.YthieianmlfejgaaDoor.fnFigures
