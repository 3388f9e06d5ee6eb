/- The law FnExactWithPage returns true for every input: the program's WithPage answers as the reference's and leaves its arguments alone. No condition. -/
import Derived.Test.YtjgphiialfhdlaaRows
import Derived.Test.YtjgphiialfhdlaaOpenM
import Derived.Test.YtjgphiialfhdlaaMemF6
import Derived.WalkKit
import Derived.ProofKit
import Derived.OpenShut
import Derived.ShutString
import Derived.ChangeOld
import Derived.Below
import Derived.Handy
import Derived.Carry
import Derived.Lib.SmallJoins
import Derived.WalkLawsBesides
import Derived.WalkSpells
namespace Go.Proofs.Ytjgphiialfhdlaa.fnExactWithPage
open Go.ChangeShapes Go.WideShapes Go.ChangeAt Go.RowKit
open Go.ChangeMaps (open_string shut_string)
set_option linter.unusedVariables false
set_option linter.unusedSimpArgs false

set_option maxHeartbeats 2000000 in
theorem walk (a0 : Option Addr) (len0 cap0 : Nat) (l0 : List (List Int)) (a1 : Int) (a2 : Option Addr) (len2 cap2 : Nat) (l2 : List Int) (w : World) (h0 : Mx w a0 len0 l0 ∧ len0 ≤ maxLen ∧ ∀ (i : Nat) (l : List Int), l0[i]? = some l → l.length ≤ maxLen) (w1 : (Lit.int .i64 a1).wf = true) (h2 : Rd w 1 a2 len2 (intCells l2) ∧ len2 ≤ maxLen) :
    Calls Try.prog 9 #[.slice a0 len0 cap0, .int .i64 a1, .slice a2 len2 cap2] w fun e w' => e = .returned (.bool true) ∧ Below w.heap.size w w' := by
  obtain ⟨R0, m0, q0⟩ := h0
  clear w1
  obtain ⟨R2, m2⟩ := h2
  have m2' : len2 ≤ 9223372036854775807 := by simpa [maxLen] using m2
  by_cases y2 : len2 ≤ 1048576
  rotate_left
  · skip
    clear R0 R2 q0 m0
    go_enter Try.func9, Try.ntmps9
    have B0 := Below.refl w.heap.size w
    go_wp2
    go_ret
    exact ⟨rfl, B0⟩
  by_cases z0 : (len0 : Int) + sumLen l0 ≤ 1048576
  rotate_left
  · skip
    go_enter Try.func9, Try.ntmps9
    have B0 := Below.refl w.heap.size w
    go_wp2_with fail
    refine (szIntSS_n a0 len0 cap0 l0 _ _ R0 m0 q0 (by omega) (by omega) (by omega)).mono ?_
    rintro e w' ⟨rfl, rfl⟩
    go_wp2
    go_ret
    exact ⟨rfl, B0⟩
  have y0 : len0 ≤ 1048576 := by omega
  have s0 : sumLen l0 ≤ 1048576 := by omega
  have r0 : Rows l0 := fun i l h => Nat.le_trans (sumLen_row l0 i l h) s0
  have hl2 := ints_len R2
  have HH2 := Lib.hid hl2
  clear hl2
  have rG : Rows (withPage l0 a1 l2) := withPage_rows l0 a1 l2 r0
  have sG : sumLen (withPage l0 a1 l2) ≤ 1048580 := by have := withPage_sum l0 a1 l2; omega
  go_enter Try.func9, Try.ntmps9
  have B0 := Below.refl w.heap.size w
  go_wp2_with fail
  refine (szIntSS_y a0 len0 cap0 l0 _ _ R0 m0 q0 (by omega) (by omega)).mono ?_
  rintro e w' ⟨rfl, rfl⟩
  clear q0
  go_wp2_with fail
  refine (toIntSS_c a0 len0 cap0 l0 _ (R0.below B0) y0 r0).mono ?_
  rintro e w1 ⟨A_t0, c_t0, v_t0, rfl, O_t0, hb1⟩
  have Z_t0 := O_t0
  have S1 := hb1.size
  have B1 := B0.trans (hb1.mono B0.size)
  clear hb1 B0
  go_wp2_with fail
  refine (toIntS_c a2 len2 cap2 l2 _ (R2.below B1) y2).mono ?_
  rintro e w2 ⟨A_t2, c_t2, rfl, O_t2, hb2⟩
  have Z_t2 := O_t2
  have S2 := hb2.size
  have B2 := B1.trans (hb2.mono B1.size)
  have O_t0' := O_t0.kept hb2
  clear O_t0
  clear hb2 B1
  go_wp2_with fail
  refine (sWithPage_c a1 A_t0 A_t2 len0 len2 c_t0 c_t2 l0 l2 _ (O_t0'.mx) (Rd.of_own O_t2) y0 y2 r0).mono ?_
  rintro e w3 ⟨A_W, c_W, v_W, rfl, O_W, hb3⟩
  have Z_W := O_W
  have S3 := hb3.size
  have B3 := B2.trans (hb3.mono B2.size)
  have O_t0'' := O_t0'.kept hb3
  clear O_t0'
  have O_t2' := own_kept O_t2 hb3
  clear O_t2
  clear hb3 B2
  go_wp2_with fail
  refine (toIntSS_c a0 len0 cap0 l0 _ (R0.below B3) y0 r0).mono ?_
  rintro e w4 ⟨A_x0, c_x0, v_x0, rfl, O_x0, hb4⟩
  have Z_x0 := O_x0
  have S4 := hb4.size
  have B4 := B3.trans (hb4.mono B3.size)
  have O_t0''' := O_t0''.kept hb4
  clear O_t0''
  have O_t2'' := own_kept O_t2' hb4
  clear O_t2'
  have O_W' := O_W.kept hb4
  clear O_W
  clear hb4 B3
  go_wp2_with fail
  refine (toIntS_c a2 len2 cap2 l2 _ (R2.below B4) y2).mono ?_
  rintro e w5 ⟨A_x2, c_x2, rfl, O_x2, hb5⟩
  have Z_x2 := O_x2
  have S5 := hb5.size
  have B5 := B4.trans (hb5.mono B4.size)
  have O_t0'''' := O_t0'''.kept hb5
  clear O_t0'''
  have O_t2''' := own_kept O_t2'' hb5
  clear O_t2''
  have O_W'' := O_W'.kept hb5
  clear O_W'
  have O_x0' := O_x0.kept hb5
  clear O_x0
  clear hb5 B4
  go_wp2_with fail
  refine (iWithPage_c a1 A_x0 A_x2 len0 len2 c_x0 c_x2 l0 l2 _ (O_x0'.mx) (Rd.of_own O_x2) y0 y2 r0).mono ?_
  rintro e w6 ⟨A_G, c_G, v_G, rfl, O_G, hb6⟩
  have Z_G := O_G
  have S6 := hb6.size
  have B6 := B5.trans (hb6.mono B5.size)
  have O_t0''''' := O_t0''''.kept hb6
  clear O_t0''''
  have O_t2'''' := own_kept O_t2''' hb6
  clear O_t2'''
  have O_W''' := O_W''.kept hb6
  clear O_W''
  have O_x0'' := O_x0'.kept hb6
  clear O_x0'
  have O_x2' := own_kept O_x2 hb6
  clear O_x2
  clear hb6 B5
  go_wp2_with fail
  refine (eqIntSS_t A_G A_W len0 c_G c_W ((withPage l0 a1 l2)) _ (O_G.mx) (O_W'''.mx) (by omega) rG).mono ?_
  rintro e w7 ⟨rfl, hb7⟩
  have S7 := hb7.size
  have B7 := B6.trans (hb7.mono B6.size)
  have O_t0'''''' := O_t0'''''.kept hb7
  clear O_t0'''''
  have O_t2''''' := own_kept O_t2'''' hb7
  clear O_t2''''
  have O_W'''' := O_W'''.kept hb7
  clear O_W'''
  have O_x0''' := O_x0''.kept hb7
  clear O_x0''
  have O_x2'' := own_kept O_x2' hb7
  clear O_x2'
  have O_G' := O_G.kept hb7
  clear O_G
  clear hb7 B6
  go_wp2_with fail
  refine (toIntSS_c a0 len0 cap0 l0 _ (R0.below B7) y0 r0).mono ?_
  rintro e w8 ⟨A_y_0, c_y_0, v_y_0, rfl, O_y_0, hb8⟩
  have Z_y_0 := O_y_0
  have S8 := hb8.size
  have B8 := B7.trans (hb8.mono B7.size)
  have O_t0''''''' := O_t0''''''.kept hb8
  clear O_t0''''''
  have O_t2'''''' := own_kept O_t2''''' hb8
  clear O_t2'''''
  have O_W''''' := O_W''''.kept hb8
  clear O_W''''
  have O_x0'''' := O_x0'''.kept hb8
  clear O_x0'''
  have O_x2''' := own_kept O_x2'' hb8
  clear O_x2''
  have O_G'' := O_G'.kept hb8
  clear O_G'
  clear hb8 B7
  go_wp2_with fail
  refine (eqIntSS_t A_x0 A_y_0 len0 c_x0 c_y_0 l0 _ (O_x0''''.mx) (O_y_0.mx) (by omega) r0).mono ?_
  rintro e w9 ⟨rfl, hb9⟩
  have S9 := hb9.size
  have B9 := B8.trans (hb9.mono B8.size)
  have O_t0'''''''' := O_t0'''''''.kept hb9
  clear O_t0'''''''
  have O_t2''''''' := own_kept O_t2'''''' hb9
  clear O_t2''''''
  have O_W'''''' := O_W'''''.kept hb9
  clear O_W'''''
  have O_x0''''' := O_x0''''.kept hb9
  clear O_x0''''
  have O_x2'''' := own_kept O_x2''' hb9
  clear O_x2'''
  have O_G''' := O_G''.kept hb9
  clear O_G''
  have O_y_0' := O_y_0.kept hb9
  clear O_y_0
  clear hb9 B8
  go_wp2_with fail
  refine (toIntS_c a2 len2 cap2 l2 _ (R2.below B9) y2).mono ?_
  rintro e w10 ⟨A_y_2, c_y_2, rfl, O_y_2, hb10⟩
  have Z_y_2 := O_y_2
  have S10 := hb10.size
  have B10 := B9.trans (hb10.mono B9.size)
  have O_t0''''''''' := O_t0''''''''.kept hb10
  clear O_t0''''''''
  have O_t2'''''''' := own_kept O_t2''''''' hb10
  clear O_t2'''''''
  have O_W''''''' := O_W''''''.kept hb10
  clear O_W''''''
  have O_x0'''''' := O_x0'''''.kept hb10
  clear O_x0'''''
  have O_x2''''' := own_kept O_x2'''' hb10
  clear O_x2''''
  have O_G'''' := O_G'''.kept hb10
  clear O_G'''
  have O_y_0'' := O_y_0'.kept hb10
  clear O_y_0'
  clear hb10 B9
  go_wp2_with fail
  refine (eqIntS_t A_x2 A_y_2 len2 c_x2 c_y_2 l2 _ (Rd.of_own O_x2''''') (Rd.of_own O_y_2) (by omega)).mono ?_
  rintro e w11 ⟨rfl, hb11⟩
  have S11 := hb11.size
  have B11 := B10.trans (hb11.mono B10.size)
  have O_t0'''''''''' := O_t0'''''''''.kept hb11
  clear O_t0'''''''''
  have O_t2''''''''' := own_kept O_t2'''''''' hb11
  clear O_t2''''''''
  have O_W'''''''' := O_W'''''''.kept hb11
  clear O_W'''''''
  have O_x0''''''' := O_x0''''''.kept hb11
  clear O_x0''''''
  have O_x2'''''' := own_kept O_x2''''' hb11
  clear O_x2'''''
  have O_G''''' := O_G''''.kept hb11
  clear O_G''''
  have O_y_0''' := O_y_0''.kept hb11
  clear O_y_0''
  have O_y_2' := own_kept O_y_2 hb11
  clear O_y_2
  clear hb11 B10
  go_wp2_with fail
  refine (markIntSS_c A_x0 len0 c_x0 l0 v_x0 1 _ _ O_x0''''''' (by omega) r0 (by omega) (by omega) (by omega)).mono ?_
  rintro e w12 ⟨rfl, OM12, hg12⟩
  have GS12 := hg12
  have S12 := GS12.size
  have B12 := below_S B11 GS12 (fun k hk => by have := Z_x0.inRows_lt hk; omega)
  have O_t0''''''''''' := O_t0''''''''''.keptS GS12 (fun k hk hs => by have a := Z_t0.row.lt k hk; have b := Z_x0.inRows_lt hs; omega) (fun k hk hs => by have a := Z_t0.inRows_lt hk; have b := Z_x0.inRows_lt hs; omega)
  clear O_t0''''''''''
  have O_t2'''''''''' := own_keptS O_t2''''''''' GS12 (fun k hk hs => by have a := Z_t2.lt k hk; have b := Z_x0.inRows_lt hs; omega)
  clear O_t2'''''''''
  have O_W''''''''' := O_W''''''''.keptS GS12 (fun k hk hs => by have a := Z_W.row.lt k hk; have b := Z_x0.inRows_lt hs; omega) (fun k hk hs => by have a := Z_W.inRows_lt hk; have b := Z_x0.inRows_lt hs; omega)
  clear O_W''''''''
  have O_x2''''''' := own_keptS O_x2'''''' GS12 (fun k hk hs => by have a := Z_x2.lt k hk; have b := Z_x0.inRows_lt hs; omega)
  clear O_x2''''''
  have O_G'''''' := O_G'''''.keptS GS12 (fun k hk hs => by have a := Z_G.row.lt k hk; have b := Z_x0.inRows_lt hs; omega) (fun k hk hs => by have a := Z_G.inRows_lt hk; have b := Z_x0.inRows_lt hs; omega)
  clear O_G'''''
  have O_y_0'''' := O_y_0'''.keptS GS12 (fun k hk hs => by have a := Z_y_0.row.lt k hk; have b := Z_x0.inRows_lt hs; omega) (fun k hk hs => by have a := Z_y_0.inRows_lt hk; have b := Z_x0.inRows_lt hs; omega)
  clear O_y_0'''
  have O_y_2'' := own_keptS O_y_2' GS12 (fun k hk hs => by have a := Z_y_2.lt k hk; have b := Z_x0.inRows_lt hs; omega)
  clear O_y_2'
  clear hg12 GS12 B11 O_x0'''''''
  go_wp2_with fail
  refine (markIntS_c A_x2 len2 c_x2 l2 (1 + (sumLen l0 : Int)) _ _ O_x2''''''' (by omega) (by omega) (by omega)).mono ?_
  rintro e w13 ⟨rfl, OM13, hg13⟩
  have GS13 := GrownS.of_grown (S := (fun k => (Value.slice A_x2 len2 c_x2).ownBlock = some k)) hg13 (fun _ h => h)
  have S13 := GS13.size
  have B13 := below_S B12 GS13 (fun k hk => by have := Z_x2.lt _ hk; omega)
  have O_t0'''''''''''' := O_t0'''''''''''.keptS GS13 (fun k hk hs => by have a := Z_t0.row.lt k hk; have b := Z_x2.lt _ hs; omega) (fun k hk hs => by have a := Z_t0.inRows_lt hk; have b := Z_x2.lt _ hs; omega)
  clear O_t0'''''''''''
  have O_t2''''''''''' := own_keptS O_t2'''''''''' GS13 (fun k hk hs => by have a := Z_t2.lt k hk; have b := Z_x2.lt _ hs; omega)
  clear O_t2''''''''''
  have O_W'''''''''' := O_W'''''''''.keptS GS13 (fun k hk hs => by have a := Z_W.row.lt k hk; have b := Z_x2.lt _ hs; omega) (fun k hk hs => by have a := Z_W.inRows_lt hk; have b := Z_x2.lt _ hs; omega)
  clear O_W'''''''''
  have OM12' := OM12.keptS GS13 (fun k hk hs => by have a := Z_x0.row.lt k hk; have b := Z_x2.lt _ hs; omega) (fun k hk hs => by have a := Z_x0.inRows_lt hk; have b := Z_x2.lt _ hs; omega)
  clear OM12
  have O_G''''''' := O_G''''''.keptS GS13 (fun k hk hs => by have a := Z_G.row.lt k hk; have b := Z_x2.lt _ hs; omega) (fun k hk hs => by have a := Z_G.inRows_lt hk; have b := Z_x2.lt _ hs; omega)
  clear O_G''''''
  have O_y_0''''' := O_y_0''''.keptS GS13 (fun k hk hs => by have a := Z_y_0.row.lt k hk; have b := Z_x2.lt _ hs; omega) (fun k hk hs => by have a := Z_y_0.inRows_lt hk; have b := Z_x2.lt _ hs; omega)
  clear O_y_0''''
  have O_y_2''' := own_keptS O_y_2'' GS13 (fun k hk hs => by have a := Z_y_2.lt k hk; have b := Z_x2.lt _ hs; omega)
  clear O_y_2''
  clear hg13 GS13 B12 O_x2'''''''
  go_wp2_with fail
  refine (eqIntSS_t A_G A_W len0 c_G c_W ((withPage l0 a1 l2)) _ (O_G'''''''.mx) (O_W''''''''''.mx) (by omega) rG).mono ?_
  rintro e w14 ⟨rfl, hb14⟩
  have S14 := hb14.size
  have B14 := B13.trans (hb14.mono B13.size)
  have O_t0''''''''''''' := O_t0''''''''''''.kept hb14
  clear O_t0''''''''''''
  have O_t2'''''''''''' := own_kept O_t2''''''''''' hb14
  clear O_t2'''''''''''
  have O_W''''''''''' := O_W''''''''''.kept hb14
  clear O_W''''''''''
  have OM12'' := OM12'.kept hb14
  clear OM12'
  have OM13' := own_kept OM13 hb14
  clear OM13
  have O_G'''''''' := O_G'''''''.kept hb14
  clear O_G'''''''
  have O_y_0'''''' := O_y_0'''''.kept hb14
  clear O_y_0'''''
  have O_y_2'''' := own_kept O_y_2''' hb14
  clear O_y_2'''
  clear hb14 B13
  go_wp2_with fail
  refine (markIntSS_c A_G len0 c_G ((withPage l0 a1 l2)) v_G 1 _ _ O_G'''''''' (by omega) rG (by omega) (by omega) (by omega)).mono ?_
  rintro e w15 ⟨rfl, OM15, hg15⟩
  have GS15 := hg15
  have S15 := GS15.size
  have B15 := below_S B14 GS15 (fun k hk => by have := Z_G.inRows_lt hk; omega)
  have O_t0'''''''''''''' := O_t0'''''''''''''.keptS GS15 (fun k hk hs => by have a := Z_t0.row.lt k hk; have b := Z_G.inRows_lt hs; omega) (fun k hk hs => by have a := Z_t0.inRows_lt hk; have b := Z_G.inRows_lt hs; omega)
  clear O_t0'''''''''''''
  have O_t2''''''''''''' := own_keptS O_t2'''''''''''' GS15 (fun k hk hs => by have a := Z_t2.lt k hk; have b := Z_G.inRows_lt hs; omega)
  clear O_t2''''''''''''
  have O_W'''''''''''' := O_W'''''''''''.keptS GS15 (fun k hk hs => by have a := Z_W.row.lt k hk; have b := Z_G.inRows_lt hs; omega) (fun k hk hs => by have a := Z_W.inRows_lt hk; have b := Z_G.inRows_lt hs; omega)
  clear O_W'''''''''''
  have OM12''' := OM12''.keptS GS15 (fun k hk hs => by have a := Z_x0.row.lt k hk; have b := Z_G.inRows_lt hs; omega) (fun k hk hs => by have a := Z_x0.inRows_lt hk; have b := Z_G.inRows_lt hs; omega)
  clear OM12''
  have OM13'' := own_keptS OM13' GS15 (fun k hk hs => by have a := Z_x2.lt k hk; have b := Z_G.inRows_lt hs; omega)
  clear OM13'
  have O_y_0''''''' := O_y_0''''''.keptS GS15 (fun k hk hs => by have a := Z_y_0.row.lt k hk; have b := Z_G.inRows_lt hs; omega) (fun k hk hs => by have a := Z_y_0.inRows_lt hk; have b := Z_G.inRows_lt hs; omega)
  clear O_y_0''''''
  have O_y_2''''' := own_keptS O_y_2'''' GS15 (fun k hk hs => by have a := Z_y_2.lt k hk; have b := Z_G.inRows_lt hs; omega)
  clear O_y_2''''
  clear hg15 GS15 B14 O_G''''''''
  go_wp2_with fail
  refine (heldIntSS_c A_G len0 c_G ((withPage l0 a1 l2)) 1 _ (OM15.mx) (by omega) rG (by omega) (by omega) (by omega)).mono ?_
  rintro e w' ⟨rfl, rfl⟩
  go_wp2_with fail
  refine (toIntSS_c a0 len0 cap0 l0 _ (R0.below B15) y0 r0).mono ?_
  rintro e w16 ⟨A_h0, c_h0, v_h0, rfl, O_h0, hb16⟩
  have Z_h0 := O_h0
  have S16 := hb16.size
  have B16 := B15.trans (hb16.mono B15.size)
  have O_t0''''''''''''''' := O_t0''''''''''''''.kept hb16
  clear O_t0''''''''''''''
  have O_t2'''''''''''''' := own_kept O_t2''''''''''''' hb16
  clear O_t2'''''''''''''
  have O_W''''''''''''' := O_W''''''''''''.kept hb16
  clear O_W''''''''''''
  have OM12'''' := OM12'''.kept hb16
  clear OM12'''
  have OM13''' := own_kept OM13'' hb16
  clear OM13''
  have OM15' := OM15.kept hb16
  clear OM15
  have O_y_0'''''''' := O_y_0'''''''.kept hb16
  clear O_y_0'''''''
  have O_y_2'''''' := own_kept O_y_2''''' hb16
  clear O_y_2'''''
  clear hb16 B15
  go_wp2_with fail
  refine (toIntS_c a2 len2 cap2 l2 _ (R2.below B16) y2).mono ?_
  rintro e w17 ⟨A_h2, c_h2, rfl, O_h2, hb17⟩
  have Z_h2 := O_h2
  have S17 := hb17.size
  have B17 := B16.trans (hb17.mono B16.size)
  have O_t0'''''''''''''''' := O_t0'''''''''''''''.kept hb17
  clear O_t0'''''''''''''''
  have O_t2''''''''''''''' := own_kept O_t2'''''''''''''' hb17
  clear O_t2''''''''''''''
  have O_W'''''''''''''' := O_W'''''''''''''.kept hb17
  clear O_W'''''''''''''
  have OM12''''' := OM12''''.kept hb17
  clear OM12''''
  have OM13'''' := own_kept OM13''' hb17
  clear OM13'''
  have OM15'' := OM15'.kept hb17
  clear OM15'
  have O_y_0''''''''' := O_y_0''''''''.kept hb17
  clear O_y_0''''''''
  have O_y_2''''''' := own_kept O_y_2'''''' hb17
  clear O_y_2''''''
  have O_h0' := O_h0.kept hb17
  clear O_h0
  clear hb17 B16
  go_wp2_with fail
  refine (iWithPage_c a1 A_h0 A_h2 len0 len2 c_h0 c_h2 l0 l2 _ (O_h0'.mx) (Rd.of_own O_h2) y0 y2 r0).mono ?_
  rintro e w18 ⟨A_H, c_H, v_H, rfl, O_H, hb18⟩
  have Z_H := O_H
  have S18 := hb18.size
  have B18 := B17.trans (hb18.mono B17.size)
  have O_t0''''''''''''''''' := O_t0''''''''''''''''.kept hb18
  clear O_t0''''''''''''''''
  have O_t2'''''''''''''''' := own_kept O_t2''''''''''''''' hb18
  clear O_t2'''''''''''''''
  have O_W''''''''''''''' := O_W''''''''''''''.kept hb18
  clear O_W''''''''''''''
  have OM12'''''' := OM12'''''.kept hb18
  clear OM12'''''
  have OM13''''' := own_kept OM13'''' hb18
  clear OM13''''
  have OM15''' := OM15''.kept hb18
  clear OM15''
  have O_y_0'''''''''' := O_y_0'''''''''.kept hb18
  clear O_y_0'''''''''
  have O_y_2'''''''' := own_kept O_y_2''''''' hb18
  clear O_y_2'''''''
  have O_h0'' := O_h0'.kept hb18
  clear O_h0'
  have O_h2' := own_kept O_h2 hb18
  clear O_h2
  clear hb18 B17
  go_wp2_with fail
  refine (eqIntSS_t A_H A_W len0 c_H c_W ((withPage l0 a1 l2)) _ (O_H.mx) (O_W'''''''''''''''.mx) (by omega) rG).mono ?_
  rintro e w19 ⟨rfl, hb19⟩
  have S19 := hb19.size
  have B19 := B18.trans (hb19.mono B18.size)
  have O_t0'''''''''''''''''' := O_t0'''''''''''''''''.kept hb19
  clear O_t0'''''''''''''''''
  have O_t2''''''''''''''''' := own_kept O_t2'''''''''''''''' hb19
  clear O_t2''''''''''''''''
  have O_W'''''''''''''''' := O_W'''''''''''''''.kept hb19
  clear O_W'''''''''''''''
  have OM12''''''' := OM12''''''.kept hb19
  clear OM12''''''
  have OM13'''''' := own_kept OM13''''' hb19
  clear OM13'''''
  have OM15'''' := OM15'''.kept hb19
  clear OM15'''
  have O_y_0''''''''''' := O_y_0''''''''''.kept hb19
  clear O_y_0''''''''''
  have O_y_2''''''''' := own_kept O_y_2'''''''' hb19
  clear O_y_2''''''''
  have O_h0''' := O_h0''.kept hb19
  clear O_h0''
  have O_h2'' := own_kept O_h2' hb19
  clear O_h2'
  have O_H' := O_H.kept hb19
  clear O_H
  clear hb19 B18
  go_wp2_with fail
  refine (heldIntSS_c A_G len0 c_G ((withPage l0 a1 l2)) 1 _ (OM15''''.mx) (by omega) rG (by omega) (by omega) (by omega)).mono ?_
  rintro e w' ⟨rfl, rfl⟩
  go_wp2
  go_ret
  exact ⟨rfl, B19⟩

/-! ### The row's step -/
theorem own : ownKnob Try.prog.godebug = none := by kernel_rfl
theorem laidOut : laidOutB Try.prog = true := by kernel_rfl
set_option maxRecDepth 100000 in
theorem lifted (os : Os) (started : os.Started) (H : Type) (enc : TypeId × Value → H) :
    ReturnsInHanded {} Try.checked os 9 .any (Rows.fnExactWithPageSpec.pre6 enc Try.prog Try.f9 Rows.fnExactWithPageRow.domain false) (Rows.fnExactWithPageSpec.post enc Try.prog Try.f9 false true false false) := by
  refine returnsInHanded_of_change (C := Try.checked) own started (by kernel_rfl) Try.func9
    (ChangeSpec.witness6 (enc := enc) (C := Try.checked) false ⟨#[], #[.slice none 0 0, .int .i64 0, .slice none 0 0], []⟩ 8 (by kernel_rfl) (by kernel_rfl) (by kernel_rfl) (by kernel_rfl)) ?_
  intro W base args ds gs before hval0 hW hcnd _
  have hval : ∀ (j : Nat) t v, Try.f9.params[j]? = some t → args[j]? = some v → Value.okWide Try.prog W .any base t v := hval0
  have hW' := hW
  obtain ⟨p, q, hA0, hV, rfl, hfz, hnd⟩ := hW
  have hA : DataW.TrodAll enc Try.prog W 0 (fun _ => true) true Try.f9.params.toList args.toList ds p := hA0
  rw [Try.params9] at hA hval
  obtain ⟨v0, vs0, d0, ds0, p0, q0, hargs, rfl, rfl, h0, r0⟩ := trodAll_cons hA
  obtain ⟨v1, vs1, d1, ds1, p1, q1, rfl, rfl, rfl, h1, r1⟩ := trodAll_cons r0
  obtain ⟨v2, vs2, d2, ds2, p2, q2, rfl, rfl, rfl, h2, r2⟩ := trodAll_cons r1
  obtain ⟨rfl, rfl, rfl⟩ := trodAll_nil r2
  obtain rfl : args = #[v0, v1, v2] := by cases args; simp_all
  obtain ⟨rfl, rfl⟩ := trodVars_none hV
  have k0 := h0
  have lt0 : ∀ x ∈ p0, x.block < W.heap.size := by obtain ⟨m, hm⟩ := k0; exact DataW.trod_lt m _ _ _ hm
  obtain ⟨a0, len0, cap0, rfl⟩ := okWide_slice Try.underlying26 (hval 0 26 v0 rfl rfl)
  obtain ⟨l0, w0⟩ := opn_intss k0
  have k1 := h1
  have lt1 : ∀ x ∈ p1, x.block < W.heap.size := by obtain ⟨m, hm⟩ := k1; exact DataW.trod_lt m _ _ _ hm
  obtain ⟨a1, rfl, rfl, rfl, w1⟩ := open_int Try.underlying3 (hval 1 3 v1 rfl rfl) h1
  have k2 := h2
  have lt2 : ∀ x ∈ p2, x.block < W.heap.size := by obtain ⟨m, hm⟩ := k2; exact DataW.trod_lt m _ _ _ hm
  obtain ⟨a2, len2, cap2, rfl⟩ := okWide_slice Try.underlying22 (hval 2 22 v2 rfl rfl)
  obtain ⟨l2, w2⟩ := opn_ints k2
  clear hA0 hval0
  refine (walk a0 len0 cap0 l0 a1 a2 len2 cap2 l2 W w0 w1 w2).mono fun e W' ⟨he, bel⟩ => ?_
  subst he
  exact ⟨_, rfl, _, _, _, [], _, [], hW', trodAll_mk1 (shut_bool Try.underlying4 _), (trodAll_cons_mk (Below.trod laidOut (by kernel_rfl) (of_decide_eq_true (by kernel_rfl)) k0 bel lt0) (trodAll_cons_mk (Below.trod laidOut (by kernel_rfl) (of_decide_eq_true (by kernel_rfl)) k1 bel lt1) (trodAll_cons_mk (Below.trod laidOut (by kernel_rfl) (of_decide_eq_true (by kernel_rfl)) k2 bel lt2) trodAll_mk0))), rfl, bel.frame _, fun h => by cases h⟩

theorem over : Rows.fnExactWithPageRow.holds Try.pinned (OpenSpec.ofChange Rows.fnExactWithPageSpec) :=
  OpenClaim.holds_of_wide 9 Try.f9 rfl rfl rfl rfl rfl rfl rfl ⟨rfl, rfl, rfl, rfl, rfl⟩ rfl rfl rfl rfl rfl (by kernel_rfl) Try.func9 (by kernel_rfl)
    (of_decide_eq_true (by kernel_rfl)) (by unfold Func.isWrapper; first | (rw [if_pos (by decide +kernel)]; kernel_rfl) | (rw [if_neg (by decide +kernel)]; exact ⟨rfl, rfl⟩))
    (fun os started H enc _ => lifted os started H enc)

/-- The statement. -/
theorem proved : Rows.FnExactWithPageSaid := over
#print axioms proved
end Go.Proofs.Ytjgphiialfhdlaa.fnExactWithPage
