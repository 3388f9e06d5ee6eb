/- The law FnExactFaults returns true for every input: the program's Faults answers as the reference's and leaves its arguments alone. No condition. -/
import Derived.Test.YtlfnhfipnjgifaaRows
import Derived.Test.YtlfnhfipnjgifaaOpen
import Derived.Test.YtlfnhfipnjgifaaSl
import Derived.Test.YtlfnhfipnjgifaaFaults
import Derived.Test.YtlfnhfipnjgifaaIntL
import Derived.WalkKit
import Derived.ProofKit
import Derived.OpenShut
import Derived.ShutString
import Derived.ChangeOld
import Derived.Below
import Derived.Handy
import Derived.Carry
import Derived.Lib.SmallJoins
import Derived.WalkLawsBesides
import Derived.WalkSpells
namespace Go.Proofs.Ytlfnhfipnjgifaa.fnExactFaults
open Go.ChangeShapes Go.WideShapes Go.ChangeAt Go.RowKit
open Go.ChangeMaps (open_string shut_string)
set_option linter.unusedVariables false
set_option linter.unusedSimpArgs false

set_option maxHeartbeats 2000000 in
theorem walk (a0 : Option Addr) (len0 cap0 : Nat) (l0 : List Sl) (a1 : Option Addr) (len1 cap1 : Nat) (l1 : List Sl) (a2 : Int) (w : World) (h0 : Rd w 2 a0 len0 (slotCells l0) ∧ len0 ≤ maxLen) (h1 : Rd w 2 a1 len1 (slotCells l1) ∧ len1 ≤ maxLen) (w2 : (Lit.int .i64 a2).wf = true) :
    Calls Try.prog 7 #[.slice a0 len0 cap0, .slice a1 len1 cap1, .int .i64 a2] w fun e w' => e = .returned (.bool true) ∧ Below w.heap.size w w' := by
  obtain ⟨R0, m0⟩ := h0
  obtain ⟨R1, m1⟩ := h1
  have g2 : a2 ≤ 9223372036854775807 := by simp [Lit.wf, IntKind.min, IntKind.max, IntKind.signed, IntKind.bits] at w2; omega
  clear w2
  by_cases z0 : (len0 : Int) ≤ 1048576
  rotate_left
  · skip
    clear R0 R1
    go_enter Try.func7, Try.ntmps7
    have B0 := Below.refl w.heap.size w
    go_wp2_with fail
    refine (szSlotS_n a0 len0 cap0 _ _ m0 (by omega) (by omega) (by omega)).mono ?_
    rintro e w' ⟨rfl, rfl⟩
    go_wp2
    go_ret
    exact ⟨rfl, B0⟩
  by_cases z1 : (len1 : Int) ≤ (1048576 - len0)
  rotate_left
  · skip
    clear R0 R1
    go_enter Try.func7, Try.ntmps7
    have B0 := Below.refl w.heap.size w
    go_wp2_with fail
    refine (szSlotS_y a0 len0 cap0 _ _ m0 (by omega) (by omega)).mono ?_
    rintro e w' ⟨rfl, rfl⟩
    go_wp2_with fail
    refine (szSlotS_n a1 len1 cap1 _ _ m1 (by omega) (by omega) (by omega)).mono ?_
    rintro e w' ⟨rfl, rfl⟩
    go_wp2
    go_ret
    exact ⟨rfl, B0⟩
  have y0 : len0 ≤ 1048576 := by omega
  have y1 : len1 ≤ 1048576 := by omega
  go_enter Try.func7, Try.ntmps7
  have B0 := Below.refl w.heap.size w
  go_wp2_with fail
  refine (szSlotS_y a0 len0 cap0 _ _ m0 (by omega) (by omega)).mono ?_
  rintro e w' ⟨rfl, rfl⟩
  go_wp2_with fail
  refine (szSlotS_y a1 len1 cap1 _ _ m1 (by omega) (by omega)).mono ?_
  rintro e w' ⟨rfl, rfl⟩
  go_wp2_with fail
  refine (toSlotS_c a0 len0 cap0 l0 _ (R0.below B0) y0).mono ?_
  rintro e w1 ⟨A_t0, c_t0, rfl, O_t0, hb1⟩
  have Z_t0 := O_t0
  have S1 := hb1.size
  have B1 := B0.trans (hb1.mono B0.size)
  clear hb1 B0
  go_wp2_with fail
  refine (toSlotS_c a1 len1 cap1 l1 _ (R1.below B1) y1).mono ?_
  rintro e w2 ⟨A_t1, c_t1, rfl, O_t1, hb2⟩
  have Z_t1 := O_t1
  have S2 := hb2.size
  have B2 := B1.trans (hb2.mono B1.size)
  have O_t0' := own_kept O_t0 hb2
  clear O_t0
  clear hb2 B1
  go_wp2_with fail
  refine (sFaults_c A_t0 A_t1 len0 len1 c_t0 c_t1 l0 l1 a2 _ (Rd.of_own O_t0') (Rd.of_own O_t1) y0 y1).mono ?_
  rintro e w3 ⟨A_W, c_W, rfl, O_W, hb3⟩
  have Z_W := O_W
  have S3 := hb3.size
  have B3 := B2.trans (hb3.mono B2.size)
  have O_t0'' := own_kept O_t0' hb3
  clear O_t0'
  have O_t1' := own_kept O_t1 hb3
  clear O_t1
  clear hb3 B2
  go_wp2_with fail
  refine (toSlotS_c a0 len0 cap0 l0 _ (R0.below B3) y0).mono ?_
  rintro e w4 ⟨A_x0, c_x0, rfl, O_x0, hb4⟩
  have Z_x0 := O_x0
  have S4 := hb4.size
  have B4 := B3.trans (hb4.mono B3.size)
  have O_t0''' := own_kept O_t0'' hb4
  clear O_t0''
  have O_t1'' := own_kept O_t1' hb4
  clear O_t1'
  have O_W' := own_kept O_W hb4
  clear O_W
  clear hb4 B3
  go_wp2_with fail
  refine (toSlotS_c a1 len1 cap1 l1 _ (R1.below B4) y1).mono ?_
  rintro e w5 ⟨A_x1, c_x1, rfl, O_x1, hb5⟩
  have Z_x1 := O_x1
  have S5 := hb5.size
  have B5 := B4.trans (hb5.mono B4.size)
  have O_t0'''' := own_kept O_t0''' hb5
  clear O_t0'''
  have O_t1''' := own_kept O_t1'' hb5
  clear O_t1''
  have O_W'' := own_kept O_W' hb5
  clear O_W'
  have O_x0' := own_kept O_x0 hb5
  clear O_x0
  clear hb5 B4
  go_wp2_with fail
  refine (iFaults_c A_x0 A_x1 len0 len1 c_x0 c_x1 l0 l1 a2 _ (Rd.of_own O_x0') (Rd.of_own O_x1) y0 y1).mono ?_
  rintro e w6 ⟨A_G, c_G, rfl, O_G, hb6⟩
  have Z_G := O_G
  have S6 := hb6.size
  have B6 := B5.trans (hb6.mono B5.size)
  have O_t0''''' := own_kept O_t0'''' hb6
  clear O_t0''''
  have O_t1'''' := own_kept O_t1''' hb6
  clear O_t1'''
  have O_W''' := own_kept O_W'' hb6
  clear O_W''
  have O_x0'' := own_kept O_x0' hb6
  clear O_x0'
  have O_x1' := own_kept O_x1 hb6
  clear O_x1
  clear hb6 B5
  go_wp2_with fail
  refine (eqIntS_t A_G A_W len0 c_G c_W ((faultsTo l0 l1 a2 len0)) _ (Rd.of_own O_G) (Rd.of_own O_W''') (by omega)).mono ?_
  rintro e w7 ⟨rfl, hb7⟩
  have S7 := hb7.size
  have B7 := B6.trans (hb7.mono B6.size)
  have O_t0'''''' := own_kept O_t0''''' hb7
  clear O_t0'''''
  have O_t1''''' := own_kept O_t1'''' hb7
  clear O_t1''''
  have O_W'''' := own_kept O_W''' hb7
  clear O_W'''
  have O_x0''' := own_kept O_x0'' hb7
  clear O_x0''
  have O_x1'' := own_kept O_x1' hb7
  clear O_x1'
  have O_G' := own_kept O_G hb7
  clear O_G
  clear hb7 B6
  go_wp2_with fail
  refine (toSlotS_c a0 len0 cap0 l0 _ (R0.below B7) y0).mono ?_
  rintro e w8 ⟨A_y_0, c_y_0, rfl, O_y_0, hb8⟩
  have Z_y_0 := O_y_0
  have S8 := hb8.size
  have B8 := B7.trans (hb8.mono B7.size)
  have O_t0''''''' := own_kept O_t0'''''' hb8
  clear O_t0''''''
  have O_t1'''''' := own_kept O_t1''''' hb8
  clear O_t1'''''
  have O_W''''' := own_kept O_W'''' hb8
  clear O_W''''
  have O_x0'''' := own_kept O_x0''' hb8
  clear O_x0'''
  have O_x1''' := own_kept O_x1'' hb8
  clear O_x1''
  have O_G'' := own_kept O_G' hb8
  clear O_G'
  clear hb8 B7
  go_wp2_with fail
  refine (eqSlotS_t A_x0 A_y_0 len0 c_x0 c_y_0 l0 _ (Rd.of_own O_x0'''') (Rd.of_own O_y_0) (by omega)).mono ?_
  rintro e w9 ⟨rfl, hb9⟩
  have S9 := hb9.size
  have B9 := B8.trans (hb9.mono B8.size)
  have O_t0'''''''' := own_kept O_t0''''''' hb9
  clear O_t0'''''''
  have O_t1''''''' := own_kept O_t1'''''' hb9
  clear O_t1''''''
  have O_W'''''' := own_kept O_W''''' hb9
  clear O_W'''''
  have O_x0''''' := own_kept O_x0'''' hb9
  clear O_x0''''
  have O_x1'''' := own_kept O_x1''' hb9
  clear O_x1'''
  have O_G''' := own_kept O_G'' hb9
  clear O_G''
  have O_y_0' := own_kept O_y_0 hb9
  clear O_y_0
  clear hb9 B8
  go_wp2_with fail
  refine (toSlotS_c a1 len1 cap1 l1 _ (R1.below B9) y1).mono ?_
  rintro e w10 ⟨A_y_1, c_y_1, rfl, O_y_1, hb10⟩
  have Z_y_1 := O_y_1
  have S10 := hb10.size
  have B10 := B9.trans (hb10.mono B9.size)
  have O_t0''''''''' := own_kept O_t0'''''''' hb10
  clear O_t0''''''''
  have O_t1'''''''' := own_kept O_t1''''''' hb10
  clear O_t1'''''''
  have O_W''''''' := own_kept O_W'''''' hb10
  clear O_W''''''
  have O_x0'''''' := own_kept O_x0''''' hb10
  clear O_x0'''''
  have O_x1''''' := own_kept O_x1'''' hb10
  clear O_x1''''
  have O_G'''' := own_kept O_G''' hb10
  clear O_G'''
  have O_y_0'' := own_kept O_y_0' hb10
  clear O_y_0'
  clear hb10 B9
  go_wp2_with fail
  refine (eqSlotS_t A_x1 A_y_1 len1 c_x1 c_y_1 l1 _ (Rd.of_own O_x1''''') (Rd.of_own O_y_1) (by omega)).mono ?_
  rintro e w11 ⟨rfl, hb11⟩
  have S11 := hb11.size
  have B11 := B10.trans (hb11.mono B10.size)
  have O_t0'''''''''' := own_kept O_t0''''''''' hb11
  clear O_t0'''''''''
  have O_t1''''''''' := own_kept O_t1'''''''' hb11
  clear O_t1''''''''
  have O_W'''''''' := own_kept O_W''''''' hb11
  clear O_W'''''''
  have O_x0''''''' := own_kept O_x0'''''' hb11
  clear O_x0''''''
  have O_x1'''''' := own_kept O_x1''''' hb11
  clear O_x1'''''
  have O_G''''' := own_kept O_G'''' hb11
  clear O_G''''
  have O_y_0''' := own_kept O_y_0'' hb11
  clear O_y_0''
  have O_y_1' := own_kept O_y_1 hb11
  clear O_y_1
  clear hb11 B10
  go_wp2_with fail
  refine (markSlotS_c A_x0 len0 c_x0 l0 1 _ _ O_x0''''''' (by omega) (by omega) (by omega)).mono ?_
  rintro e w12 ⟨rfl, OM12, hg12⟩
  have B12 := below_marked B11 O_x0''''''' (by omega) hg12
  have S12 := hg12.size
  have O_t0''''''''''' := O_t0''''''''''.kept hg12 (own_apart Z_t0 Z_x0 (by omega))
  clear O_t0''''''''''
  have O_t1'''''''''' := O_t1'''''''''.kept hg12 (own_apart Z_t1 Z_x0 (by omega))
  clear O_t1'''''''''
  have O_W''''''''' := O_W''''''''.kept hg12 (own_apart Z_W Z_x0 (by omega))
  clear O_W''''''''
  have O_x1''''''' := O_x1''''''.kept hg12 (own_apart' Z_x0 Z_x1 (by omega))
  clear O_x1''''''
  have O_G'''''' := O_G'''''.kept hg12 (own_apart' Z_x0 Z_G (by omega))
  clear O_G'''''
  have O_y_0'''' := O_y_0'''.kept hg12 (own_apart' Z_x0 Z_y_0 (by omega))
  clear O_y_0'''
  have O_y_1'' := O_y_1'.kept hg12 (own_apart' Z_x0 Z_y_1 (by omega))
  clear O_y_1'
  clear hg12 B11 O_x0'''''''
  go_wp2_with fail
  refine (markSlotS_c A_x1 len1 c_x1 l1 (1 + 2 * (len0 : Int)) _ _ O_x1''''''' (by omega) (by omega) (by omega)).mono ?_
  rintro e w13 ⟨rfl, OM13, hg13⟩
  have B13 := below_marked B12 O_x1''''''' (by omega) hg13
  have S13 := hg13.size
  have O_t0'''''''''''' := O_t0'''''''''''.kept hg13 (own_apart Z_t0 Z_x1 (by omega))
  clear O_t0'''''''''''
  have O_t1''''''''''' := O_t1''''''''''.kept hg13 (own_apart Z_t1 Z_x1 (by omega))
  clear O_t1''''''''''
  have O_W'''''''''' := O_W'''''''''.kept hg13 (own_apart Z_W Z_x1 (by omega))
  clear O_W'''''''''
  have OM12' := OM12.kept hg13 (own_apart Z_x0 Z_x1 (by omega))
  clear OM12
  have O_G''''''' := O_G''''''.kept hg13 (own_apart' Z_x1 Z_G (by omega))
  clear O_G''''''
  have O_y_0''''' := O_y_0''''.kept hg13 (own_apart' Z_x1 Z_y_0 (by omega))
  clear O_y_0''''
  have O_y_1''' := O_y_1''.kept hg13 (own_apart' Z_x1 Z_y_1 (by omega))
  clear O_y_1''
  clear hg13 B12 O_x1'''''''
  go_wp2_with fail
  refine (eqIntS_t A_G A_W len0 c_G c_W ((faultsTo l0 l1 a2 len0)) _ (Rd.of_own O_G''''''') (Rd.of_own O_W'''''''''') (by omega)).mono ?_
  rintro e w14 ⟨rfl, hb14⟩
  have S14 := hb14.size
  have B14 := B13.trans (hb14.mono B13.size)
  have O_t0''''''''''''' := own_kept O_t0'''''''''''' hb14
  clear O_t0''''''''''''
  have O_t1'''''''''''' := own_kept O_t1''''''''''' hb14
  clear O_t1'''''''''''
  have O_W''''''''''' := own_kept O_W'''''''''' hb14
  clear O_W''''''''''
  have OM12'' := own_kept OM12' hb14
  clear OM12'
  have OM13' := own_kept OM13 hb14
  clear OM13
  have O_G'''''''' := own_kept O_G''''''' hb14
  clear O_G'''''''
  have O_y_0'''''' := own_kept O_y_0''''' hb14
  clear O_y_0'''''
  have O_y_1'''' := own_kept O_y_1''' hb14
  clear O_y_1'''
  clear hb14 B13
  go_wp2_with fail
  refine (markIntS_c A_G len0 c_G ((faultsTo l0 l1 a2 len0)) 1 _ _ O_G'''''''' (by omega) (by omega) (by omega)).mono ?_
  rintro e w15 ⟨rfl, OM15, hg15⟩
  have B15 := below_marked B14 O_G'''''''' (by omega) hg15
  have S15 := hg15.size
  have O_t0'''''''''''''' := O_t0'''''''''''''.kept hg15 (own_apart Z_t0 Z_G (by omega))
  clear O_t0'''''''''''''
  have O_t1''''''''''''' := O_t1''''''''''''.kept hg15 (own_apart Z_t1 Z_G (by omega))
  clear O_t1''''''''''''
  have O_W'''''''''''' := O_W'''''''''''.kept hg15 (own_apart Z_W Z_G (by omega))
  clear O_W'''''''''''
  have OM12''' := OM12''.kept hg15 (own_apart Z_x0 Z_G (by omega))
  clear OM12''
  have OM13'' := OM13'.kept hg15 (own_apart Z_x1 Z_G (by omega))
  clear OM13'
  have O_y_0''''''' := O_y_0''''''.kept hg15 (own_apart' Z_G Z_y_0 (by omega))
  clear O_y_0''''''
  have O_y_1''''' := O_y_1''''.kept hg15 (own_apart' Z_G Z_y_1 (by omega))
  clear O_y_1''''
  clear hg15 B14 O_G''''''''
  go_wp2_with fail
  refine (heldIntS_c A_G len0 c_G 1 _ (Rd.of_own OM15) (by omega) (by omega) (by omega)).mono ?_
  rintro e w' ⟨rfl, rfl⟩
  go_wp2_with fail
  refine (toSlotS_c a0 len0 cap0 l0 _ (R0.below B15) y0).mono ?_
  rintro e w16 ⟨A_h0, c_h0, rfl, O_h0, hb16⟩
  have Z_h0 := O_h0
  have S16 := hb16.size
  have B16 := B15.trans (hb16.mono B15.size)
  have O_t0''''''''''''''' := own_kept O_t0'''''''''''''' hb16
  clear O_t0''''''''''''''
  have O_t1'''''''''''''' := own_kept O_t1''''''''''''' hb16
  clear O_t1'''''''''''''
  have O_W''''''''''''' := own_kept O_W'''''''''''' hb16
  clear O_W''''''''''''
  have OM12'''' := own_kept OM12''' hb16
  clear OM12'''
  have OM13''' := own_kept OM13'' hb16
  clear OM13''
  have OM15' := own_kept OM15 hb16
  clear OM15
  have O_y_0'''''''' := own_kept O_y_0''''''' hb16
  clear O_y_0'''''''
  have O_y_1'''''' := own_kept O_y_1''''' hb16
  clear O_y_1'''''
  clear hb16 B15
  go_wp2_with fail
  refine (toSlotS_c a1 len1 cap1 l1 _ (R1.below B16) y1).mono ?_
  rintro e w17 ⟨A_h1, c_h1, rfl, O_h1, hb17⟩
  have Z_h1 := O_h1
  have S17 := hb17.size
  have B17 := B16.trans (hb17.mono B16.size)
  have O_t0'''''''''''''''' := own_kept O_t0''''''''''''''' hb17
  clear O_t0'''''''''''''''
  have O_t1''''''''''''''' := own_kept O_t1'''''''''''''' hb17
  clear O_t1''''''''''''''
  have O_W'''''''''''''' := own_kept O_W''''''''''''' hb17
  clear O_W'''''''''''''
  have OM12''''' := own_kept OM12'''' hb17
  clear OM12''''
  have OM13'''' := own_kept OM13''' hb17
  clear OM13'''
  have OM15'' := own_kept OM15' hb17
  clear OM15'
  have O_y_0''''''''' := own_kept O_y_0'''''''' hb17
  clear O_y_0''''''''
  have O_y_1''''''' := own_kept O_y_1'''''' hb17
  clear O_y_1''''''
  have O_h0' := own_kept O_h0 hb17
  clear O_h0
  clear hb17 B16
  go_wp2_with fail
  refine (iFaults_c A_h0 A_h1 len0 len1 c_h0 c_h1 l0 l1 a2 _ (Rd.of_own O_h0') (Rd.of_own O_h1) y0 y1).mono ?_
  rintro e w18 ⟨A_H, c_H, rfl, O_H, hb18⟩
  have Z_H := O_H
  have S18 := hb18.size
  have B18 := B17.trans (hb18.mono B17.size)
  have O_t0''''''''''''''''' := own_kept O_t0'''''''''''''''' hb18
  clear O_t0''''''''''''''''
  have O_t1'''''''''''''''' := own_kept O_t1''''''''''''''' hb18
  clear O_t1'''''''''''''''
  have O_W''''''''''''''' := own_kept O_W'''''''''''''' hb18
  clear O_W''''''''''''''
  have OM12'''''' := own_kept OM12''''' hb18
  clear OM12'''''
  have OM13''''' := own_kept OM13'''' hb18
  clear OM13''''
  have OM15''' := own_kept OM15'' hb18
  clear OM15''
  have O_y_0'''''''''' := own_kept O_y_0''''''''' hb18
  clear O_y_0'''''''''
  have O_y_1'''''''' := own_kept O_y_1''''''' hb18
  clear O_y_1'''''''
  have O_h0'' := own_kept O_h0' hb18
  clear O_h0'
  have O_h1' := own_kept O_h1 hb18
  clear O_h1
  clear hb18 B17
  go_wp2_with fail
  refine (eqIntS_t A_H A_W len0 c_H c_W ((faultsTo l0 l1 a2 len0)) _ (Rd.of_own O_H) (Rd.of_own O_W''''''''''''''') (by omega)).mono ?_
  rintro e w19 ⟨rfl, hb19⟩
  have S19 := hb19.size
  have B19 := B18.trans (hb19.mono B18.size)
  have O_t0'''''''''''''''''' := own_kept O_t0''''''''''''''''' hb19
  clear O_t0'''''''''''''''''
  have O_t1''''''''''''''''' := own_kept O_t1'''''''''''''''' hb19
  clear O_t1''''''''''''''''
  have O_W'''''''''''''''' := own_kept O_W''''''''''''''' hb19
  clear O_W'''''''''''''''
  have OM12''''''' := own_kept OM12'''''' hb19
  clear OM12''''''
  have OM13'''''' := own_kept OM13''''' hb19
  clear OM13'''''
  have OM15'''' := own_kept OM15''' hb19
  clear OM15'''
  have O_y_0''''''''''' := own_kept O_y_0'''''''''' hb19
  clear O_y_0''''''''''
  have O_y_1''''''''' := own_kept O_y_1'''''''' hb19
  clear O_y_1''''''''
  have O_h0''' := own_kept O_h0'' hb19
  clear O_h0''
  have O_h1'' := own_kept O_h1' hb19
  clear O_h1'
  have O_H' := own_kept O_H hb19
  clear O_H
  clear hb19 B18
  go_wp2_with fail
  refine (heldIntS_c A_G len0 c_G 1 _ (Rd.of_own OM15'''') (by omega) (by omega) (by omega)).mono ?_
  rintro e w' ⟨rfl, rfl⟩
  go_wp2
  go_ret
  exact ⟨rfl, B19⟩

/-! ### The row's step -/
theorem own : ownKnob Try.prog.godebug = none := by kernel_rfl
theorem laidOut : laidOutB Try.prog = true := by kernel_rfl
set_option maxRecDepth 100000 in
theorem lifted (os : Os) (started : os.Started) (H : Type) (enc : TypeId × Value → H) :
    ReturnsInHanded {} Try.checked os 7 .any (Rows.fnExactFaultsSpec.pre6 enc Try.prog Try.f7 Rows.fnExactFaultsRow.domain false) (Rows.fnExactFaultsSpec.post enc Try.prog Try.f7 false true false false) := by
  refine returnsInHanded_of_change (C := Try.checked) own started (by kernel_rfl) Try.func7
    (ChangeSpec.witness6 (enc := enc) (C := Try.checked) false ⟨#[], #[.slice none 0 0, .slice none 0 0, .int .i64 0], []⟩ 8 (by kernel_rfl) (by kernel_rfl) (by kernel_rfl) (by kernel_rfl)) ?_
  intro W base args ds gs before hval0 hW hcnd _
  have hval : ∀ (j : Nat) t v, Try.f7.params[j]? = some t → args[j]? = some v → Value.okWide Try.prog W .any base t v := hval0
  have hW' := hW
  obtain ⟨p, q, hA0, hV, rfl, hfz, hnd⟩ := hW
  have hA : DataW.TrodAll enc Try.prog W 0 (fun _ => true) true Try.f7.params.toList args.toList ds p := hA0
  rw [Try.params7] at hA hval
  obtain ⟨v0, vs0, d0, ds0, p0, q0, hargs, rfl, rfl, h0, r0⟩ := trodAll_cons hA
  obtain ⟨v1, vs1, d1, ds1, p1, q1, rfl, rfl, rfl, h1, r1⟩ := trodAll_cons r0
  obtain ⟨v2, vs2, d2, ds2, p2, q2, rfl, rfl, rfl, h2, r2⟩ := trodAll_cons r1
  obtain ⟨rfl, rfl, rfl⟩ := trodAll_nil r2
  obtain rfl : args = #[v0, v1, v2] := by cases args; simp_all
  obtain ⟨rfl, rfl⟩ := trodVars_none hV
  have k0 := h0
  have lt0 : ∀ x ∈ p0, x.block < W.heap.size := by obtain ⟨m, hm⟩ := k0; exact DataW.trod_lt m _ _ _ hm
  obtain ⟨a0, len0, cap0, rfl⟩ := okWide_slice Try.underlying33 (hval 0 33 v0 rfl rfl)
  obtain ⟨l0, w0⟩ := open_slots k0
  have k1 := h1
  have lt1 : ∀ x ∈ p1, x.block < W.heap.size := by obtain ⟨m, hm⟩ := k1; exact DataW.trod_lt m _ _ _ hm
  obtain ⟨a1, len1, cap1, rfl⟩ := okWide_slice Try.underlying33 (hval 1 33 v1 rfl rfl)
  obtain ⟨l1, w1⟩ := open_slots k1
  have k2 := h2
  have lt2 : ∀ x ∈ p2, x.block < W.heap.size := by obtain ⟨m, hm⟩ := k2; exact DataW.trod_lt m _ _ _ hm
  obtain ⟨a2, rfl, rfl, rfl, w2⟩ := open_int Try.underlying3 (hval 2 3 v2 rfl rfl) h2
  clear hA0 hval0
  refine (walk a0 len0 cap0 l0 a1 len1 cap1 l1 a2 W w0 w1 w2).mono fun e W' ⟨he, bel⟩ => ?_
  subst he
  exact ⟨_, rfl, _, _, _, [], _, [], hW', trodAll_mk1 (shut_bool Try.underlying4 _), (trodAll_cons_mk (Below.trod laidOut (by kernel_rfl) (of_decide_eq_true (by kernel_rfl)) k0 bel lt0) (trodAll_cons_mk (Below.trod laidOut (by kernel_rfl) (of_decide_eq_true (by kernel_rfl)) k1 bel lt1) (trodAll_cons_mk (Below.trod laidOut (by kernel_rfl) (of_decide_eq_true (by kernel_rfl)) k2 bel lt2) trodAll_mk0))), rfl, bel.frame _, fun h => by cases h⟩

theorem over : Rows.fnExactFaultsRow.holds Try.pinned (OpenSpec.ofChange Rows.fnExactFaultsSpec) :=
  OpenClaim.holds_of_wide 7 Try.f7 rfl rfl rfl rfl rfl rfl rfl ⟨rfl, rfl, rfl, rfl, rfl⟩ rfl rfl rfl rfl rfl (by kernel_rfl) Try.func7 (by kernel_rfl)
    (of_decide_eq_true (by kernel_rfl)) (by unfold Func.isWrapper; first | (rw [if_pos (by decide +kernel)]; kernel_rfl) | (rw [if_neg (by decide +kernel)]; exact ⟨rfl, rfl⟩))
    (fun os started H enc _ => lifted os started H enc)

/-- The statement. -/
theorem proved : Rows.FnExactFaultsSaid := over
#print axioms proved
end Go.Proofs.Ytlfnhfipnjgifaa.fnExactFaults
