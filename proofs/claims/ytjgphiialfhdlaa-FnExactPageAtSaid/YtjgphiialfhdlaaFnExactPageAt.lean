/- The law FnExactPageAt returns true for every input: the program's PageAt answers as the reference's and leaves its arguments alone. No condition. -/
import Derived.Test.YtjgphiialfhdlaaRows
import Derived.Test.YtjgphiialfhdlaaOpenM
import Derived.Test.YtjgphiialfhdlaaMemF6
import Derived.WalkKit
import Derived.ProofKit
import Derived.OpenShut
import Derived.ShutString
import Derived.ChangeOld
import Derived.Below
import Derived.Handy
import Derived.Carry
import Derived.Lib.SmallJoins
import Derived.WalkLawsBesides
import Derived.WalkSpells
namespace Go.Proofs.Ytjgphiialfhdlaa.fnExactPageAt
open Go.ChangeShapes Go.WideShapes Go.ChangeAt Go.RowKit
open Go.ChangeMaps (open_string shut_string)
set_option linter.unusedVariables false
set_option linter.unusedSimpArgs false

set_option maxHeartbeats 2000000 in
theorem walk (a0 : Option Addr) (len0 cap0 : Nat) (l0 : List (List Int)) (a1 : Int) (w : World) (h0 : Mx w a0 len0 l0 ∧ len0 ≤ maxLen ∧ ∀ (i : Nat) (l : List Int), l0[i]? = some l → l.length ≤ maxLen) (w1 : (Lit.int .i64 a1).wf = true) :
    Calls Try.prog 8 #[.slice a0 len0 cap0, .int .i64 a1] w fun e w' => e = .returned (.bool true) ∧ Below w.heap.size w w' := by
  obtain ⟨R0, m0, q0⟩ := h0
  clear w1
  by_cases z0 : (len0 : Int) + sumLen l0 ≤ 1048576
  rotate_left
  · skip
    go_enter Try.func8, Try.ntmps8
    have B0 := Below.refl w.heap.size w
    go_wp2_with fail
    refine (szIntSS_n a0 len0 cap0 l0 _ _ R0 m0 q0 (by omega) (by omega) (by omega)).mono ?_
    rintro e w' ⟨rfl, rfl⟩
    go_wp2
    go_ret
    exact ⟨rfl, B0⟩
  have y0 : len0 ≤ 1048576 := by omega
  have s0 : sumLen l0 ≤ 1048576 := by omega
  have r0 : Rows l0 := fun i l h => Nat.le_trans (sumLen_row l0 i l h) s0
  have yP : (pageAt l0 a1).length ≤ 1048576 := pageAt_len l0 a1 r0
  go_enter Try.func8, Try.ntmps8
  have B0 := Below.refl w.heap.size w
  go_wp2_with fail
  refine (szIntSS_y a0 len0 cap0 l0 _ _ R0 m0 q0 (by omega) (by omega)).mono ?_
  rintro e w' ⟨rfl, rfl⟩
  clear q0
  go_wp2_with fail
  refine (toIntSS_c a0 len0 cap0 l0 _ (R0.below B0) y0 r0).mono ?_
  rintro e w1 ⟨A_t0, c_t0, v_t0, rfl, O_t0, hb1⟩
  have Z_t0 := O_t0
  have S1 := hb1.size
  have B1 := B0.trans (hb1.mono B0.size)
  clear hb1 B0
  go_wp2_with fail
  refine (sPageAt_c a1 A_t0 len0 c_t0 l0 _ (O_t0.mx) y0 r0).mono ?_
  rintro e w2 ⟨A_W, c_W, rfl, O_W, hb2⟩
  have Z_W := O_W
  have S2 := hb2.size
  have B2 := B1.trans (hb2.mono B1.size)
  have O_t0' := O_t0.kept hb2
  clear O_t0
  clear hb2 B1
  go_wp2_with fail
  refine (toIntSS_c a0 len0 cap0 l0 _ (R0.below B2) y0 r0).mono ?_
  rintro e w3 ⟨A_x0, c_x0, v_x0, rfl, O_x0, hb3⟩
  have Z_x0 := O_x0
  have S3 := hb3.size
  have B3 := B2.trans (hb3.mono B2.size)
  have O_t0'' := O_t0'.kept hb3
  clear O_t0'
  have O_W' := own_kept O_W hb3
  clear O_W
  clear hb3 B2
  go_wp2_with fail
  refine (iPageAt_c a1 A_x0 len0 c_x0 l0 _ (O_x0.mx) y0 r0).mono ?_
  rintro e w4 ⟨A_G, c_G, rfl, O_G, hb4⟩
  have Z_G := O_G
  have S4 := hb4.size
  have B4 := B3.trans (hb4.mono B3.size)
  have O_t0''' := O_t0''.kept hb4
  clear O_t0''
  have O_W'' := own_kept O_W' hb4
  clear O_W'
  have O_x0' := O_x0.kept hb4
  clear O_x0
  clear hb4 B3
  go_wp2_with fail
  refine (eqIntS_t A_G A_W (pageAt l0 a1).length c_G c_W ((pageAt l0 a1)) _ (Rd.of_own O_G) (Rd.of_own O_W'') (by omega)).mono ?_
  rintro e w5 ⟨rfl, hb5⟩
  have S5 := hb5.size
  have B5 := B4.trans (hb5.mono B4.size)
  have O_t0'''' := O_t0'''.kept hb5
  clear O_t0'''
  have O_W''' := own_kept O_W'' hb5
  clear O_W''
  have O_x0'' := O_x0'.kept hb5
  clear O_x0'
  have O_G' := own_kept O_G hb5
  clear O_G
  clear hb5 B4
  go_wp2_with fail
  refine (toIntSS_c a0 len0 cap0 l0 _ (R0.below B5) y0 r0).mono ?_
  rintro e w6 ⟨A_y_0, c_y_0, v_y_0, rfl, O_y_0, hb6⟩
  have Z_y_0 := O_y_0
  have S6 := hb6.size
  have B6 := B5.trans (hb6.mono B5.size)
  have O_t0''''' := O_t0''''.kept hb6
  clear O_t0''''
  have O_W'''' := own_kept O_W''' hb6
  clear O_W'''
  have O_x0''' := O_x0''.kept hb6
  clear O_x0''
  have O_G'' := own_kept O_G' hb6
  clear O_G'
  clear hb6 B5
  go_wp2_with fail
  refine (eqIntSS_t A_x0 A_y_0 len0 c_x0 c_y_0 l0 _ (O_x0'''.mx) (O_y_0.mx) (by omega) r0).mono ?_
  rintro e w7 ⟨rfl, hb7⟩
  have S7 := hb7.size
  have B7 := B6.trans (hb7.mono B6.size)
  have O_t0'''''' := O_t0'''''.kept hb7
  clear O_t0'''''
  have O_W''''' := own_kept O_W'''' hb7
  clear O_W''''
  have O_x0'''' := O_x0'''.kept hb7
  clear O_x0'''
  have O_G''' := own_kept O_G'' hb7
  clear O_G''
  have O_y_0' := O_y_0.kept hb7
  clear O_y_0
  clear hb7 B6
  go_wp2_with fail
  refine (markIntSS_c A_x0 len0 c_x0 l0 v_x0 1 _ _ O_x0'''' (by omega) r0 (by omega) (by omega) (by omega)).mono ?_
  rintro e w8 ⟨rfl, OM8, hg8⟩
  have GS8 := hg8
  have S8 := GS8.size
  have B8 := below_S B7 GS8 (fun k hk => by have := Z_x0.inRows_lt hk; omega)
  have O_t0''''''' := O_t0''''''.keptS GS8 (fun k hk hs => by have a := Z_t0.row.lt k hk; have b := Z_x0.inRows_lt hs; omega) (fun k hk hs => by have a := Z_t0.inRows_lt hk; have b := Z_x0.inRows_lt hs; omega)
  clear O_t0''''''
  have O_W'''''' := own_keptS O_W''''' GS8 (fun k hk hs => by have a := Z_W.lt k hk; have b := Z_x0.inRows_lt hs; omega)
  clear O_W'''''
  have O_G'''' := own_keptS O_G''' GS8 (fun k hk hs => by have a := Z_G.lt k hk; have b := Z_x0.inRows_lt hs; omega)
  clear O_G'''
  have O_y_0'' := O_y_0'.keptS GS8 (fun k hk hs => by have a := Z_y_0.row.lt k hk; have b := Z_x0.inRows_lt hs; omega) (fun k hk hs => by have a := Z_y_0.inRows_lt hk; have b := Z_x0.inRows_lt hs; omega)
  clear O_y_0'
  clear hg8 GS8 B7 O_x0''''
  go_wp2_with fail
  refine (eqIntS_t A_G A_W (pageAt l0 a1).length c_G c_W ((pageAt l0 a1)) _ (Rd.of_own O_G'''') (Rd.of_own O_W'''''') (by omega)).mono ?_
  rintro e w9 ⟨rfl, hb9⟩
  have S9 := hb9.size
  have B9 := B8.trans (hb9.mono B8.size)
  have O_t0'''''''' := O_t0'''''''.kept hb9
  clear O_t0'''''''
  have O_W''''''' := own_kept O_W'''''' hb9
  clear O_W''''''
  have OM8' := OM8.kept hb9
  clear OM8
  have O_G''''' := own_kept O_G'''' hb9
  clear O_G''''
  have O_y_0''' := O_y_0''.kept hb9
  clear O_y_0''
  clear hb9 B8
  go_wp2_with fail
  refine (markIntS_c A_G (pageAt l0 a1).length c_G ((pageAt l0 a1)) 1 _ _ O_G''''' (by omega) (by omega) (by omega)).mono ?_
  rintro e w10 ⟨rfl, OM10, hg10⟩
  have GS10 := GrownS.of_grown (S := (fun k => (Value.slice A_G (pageAt l0 a1).length c_G).ownBlock = some k)) hg10 (fun _ h => h)
  have S10 := GS10.size
  have B10 := below_S B9 GS10 (fun k hk => by have := Z_G.lt _ hk; omega)
  have O_t0''''''''' := O_t0''''''''.keptS GS10 (fun k hk hs => by have a := Z_t0.row.lt k hk; have b := Z_G.lt _ hs; omega) (fun k hk hs => by have a := Z_t0.inRows_lt hk; have b := Z_G.lt _ hs; omega)
  clear O_t0''''''''
  have O_W'''''''' := own_keptS O_W''''''' GS10 (fun k hk hs => by have a := Z_W.lt k hk; have b := Z_G.lt _ hs; omega)
  clear O_W'''''''
  have OM8'' := OM8'.keptS GS10 (fun k hk hs => by have a := Z_x0.row.lt k hk; have b := Z_G.lt _ hs; omega) (fun k hk hs => by have a := Z_x0.inRows_lt hk; have b := Z_G.lt _ hs; omega)
  clear OM8'
  have O_y_0'''' := O_y_0'''.keptS GS10 (fun k hk hs => by have a := Z_y_0.row.lt k hk; have b := Z_G.lt _ hs; omega) (fun k hk hs => by have a := Z_y_0.inRows_lt hk; have b := Z_G.lt _ hs; omega)
  clear O_y_0'''
  clear hg10 GS10 B9 O_G'''''
  go_wp2_with fail
  refine (heldIntS_c A_G (pageAt l0 a1).length c_G 1 _ (Rd.of_own OM10) (by omega) (by omega) (by omega)).mono ?_
  rintro e w' ⟨rfl, rfl⟩
  go_wp2_with fail
  refine (toIntSS_c a0 len0 cap0 l0 _ (R0.below B10) y0 r0).mono ?_
  rintro e w11 ⟨A_h0, c_h0, v_h0, rfl, O_h0, hb11⟩
  have Z_h0 := O_h0
  have S11 := hb11.size
  have B11 := B10.trans (hb11.mono B10.size)
  have O_t0'''''''''' := O_t0'''''''''.kept hb11
  clear O_t0'''''''''
  have O_W''''''''' := own_kept O_W'''''''' hb11
  clear O_W''''''''
  have OM8''' := OM8''.kept hb11
  clear OM8''
  have OM10' := own_kept OM10 hb11
  clear OM10
  have O_y_0''''' := O_y_0''''.kept hb11
  clear O_y_0''''
  clear hb11 B10
  go_wp2_with fail
  refine (iPageAt_c a1 A_h0 len0 c_h0 l0 _ (O_h0.mx) y0 r0).mono ?_
  rintro e w12 ⟨A_H, c_H, rfl, O_H, hb12⟩
  have Z_H := O_H
  have S12 := hb12.size
  have B12 := B11.trans (hb12.mono B11.size)
  have O_t0''''''''''' := O_t0''''''''''.kept hb12
  clear O_t0''''''''''
  have O_W'''''''''' := own_kept O_W''''''''' hb12
  clear O_W'''''''''
  have OM8'''' := OM8'''.kept hb12
  clear OM8'''
  have OM10'' := own_kept OM10' hb12
  clear OM10'
  have O_y_0'''''' := O_y_0'''''.kept hb12
  clear O_y_0'''''
  have O_h0' := O_h0.kept hb12
  clear O_h0
  clear hb12 B11
  go_wp2_with fail
  refine (eqIntS_t A_H A_W (pageAt l0 a1).length c_H c_W ((pageAt l0 a1)) _ (Rd.of_own O_H) (Rd.of_own O_W'''''''''') (by omega)).mono ?_
  rintro e w13 ⟨rfl, hb13⟩
  have S13 := hb13.size
  have B13 := B12.trans (hb13.mono B12.size)
  have O_t0'''''''''''' := O_t0'''''''''''.kept hb13
  clear O_t0'''''''''''
  have O_W''''''''''' := own_kept O_W'''''''''' hb13
  clear O_W''''''''''
  have OM8''''' := OM8''''.kept hb13
  clear OM8''''
  have OM10''' := own_kept OM10'' hb13
  clear OM10''
  have O_y_0''''''' := O_y_0''''''.kept hb13
  clear O_y_0''''''
  have O_h0'' := O_h0'.kept hb13
  clear O_h0'
  have O_H' := own_kept O_H hb13
  clear O_H
  clear hb13 B12
  go_wp2_with fail
  refine (heldIntS_c A_G (pageAt l0 a1).length c_G 1 _ (Rd.of_own OM10''') (by omega) (by omega) (by omega)).mono ?_
  rintro e w' ⟨rfl, rfl⟩
  go_wp2
  go_ret
  exact ⟨rfl, B13⟩

/-! ### The row's step -/
theorem own : ownKnob Try.prog.godebug = none := by kernel_rfl
theorem laidOut : laidOutB Try.prog = true := by kernel_rfl
set_option maxRecDepth 100000 in
theorem lifted (os : Os) (started : os.Started) (H : Type) (enc : TypeId × Value → H) :
    ReturnsInHanded {} Try.checked os 8 .any (Rows.fnExactPageAtSpec.pre6 enc Try.prog Try.f8 Rows.fnExactPageAtRow.domain false) (Rows.fnExactPageAtSpec.post enc Try.prog Try.f8 false true false false) := by
  refine returnsInHanded_of_change (C := Try.checked) own started (by kernel_rfl) Try.func8
    (ChangeSpec.witness6 (enc := enc) (C := Try.checked) false ⟨#[], #[.slice none 0 0, .int .i64 0], []⟩ 8 (by kernel_rfl) (by kernel_rfl) (by kernel_rfl) (by kernel_rfl)) ?_
  intro W base args ds gs before hval0 hW hcnd _
  have hval : ∀ (j : Nat) t v, Try.f8.params[j]? = some t → args[j]? = some v → Value.okWide Try.prog W .any base t v := hval0
  have hW' := hW
  obtain ⟨p, q, hA0, hV, rfl, hfz, hnd⟩ := hW
  have hA : DataW.TrodAll enc Try.prog W 0 (fun _ => true) true Try.f8.params.toList args.toList ds p := hA0
  rw [Try.params8] at hA hval
  obtain ⟨v0, vs0, d0, ds0, p0, q0, hargs, rfl, rfl, h0, r0⟩ := trodAll_cons hA
  obtain ⟨v1, vs1, d1, ds1, p1, q1, rfl, rfl, rfl, h1, r1⟩ := trodAll_cons r0
  obtain ⟨rfl, rfl, rfl⟩ := trodAll_nil r1
  obtain rfl : args = #[v0, v1] := by cases args; simp_all
  obtain ⟨rfl, rfl⟩ := trodVars_none hV
  have k0 := h0
  have lt0 : ∀ x ∈ p0, x.block < W.heap.size := by obtain ⟨m, hm⟩ := k0; exact DataW.trod_lt m _ _ _ hm
  obtain ⟨a0, len0, cap0, rfl⟩ := okWide_slice Try.underlying26 (hval 0 26 v0 rfl rfl)
  obtain ⟨l0, w0⟩ := opn_intss k0
  have k1 := h1
  have lt1 : ∀ x ∈ p1, x.block < W.heap.size := by obtain ⟨m, hm⟩ := k1; exact DataW.trod_lt m _ _ _ hm
  obtain ⟨a1, rfl, rfl, rfl, w1⟩ := open_int Try.underlying3 (hval 1 3 v1 rfl rfl) h1
  clear hA0 hval0
  refine (walk a0 len0 cap0 l0 a1 W w0 w1).mono fun e W' ⟨he, bel⟩ => ?_
  subst he
  exact ⟨_, rfl, _, _, _, [], _, [], hW', trodAll_mk1 (shut_bool Try.underlying4 _), (trodAll_cons_mk (Below.trod laidOut (by kernel_rfl) (of_decide_eq_true (by kernel_rfl)) k0 bel lt0) (trodAll_cons_mk (Below.trod laidOut (by kernel_rfl) (of_decide_eq_true (by kernel_rfl)) k1 bel lt1) trodAll_mk0)), rfl, bel.frame _, fun h => by cases h⟩

theorem over : Rows.fnExactPageAtRow.holds Try.pinned (OpenSpec.ofChange Rows.fnExactPageAtSpec) :=
  OpenClaim.holds_of_wide 8 Try.f8 rfl rfl rfl rfl rfl rfl rfl ⟨rfl, rfl, rfl, rfl, rfl⟩ rfl rfl rfl rfl rfl (by kernel_rfl) Try.func8 (by kernel_rfl)
    (of_decide_eq_true (by kernel_rfl)) (by unfold Func.isWrapper; first | (rw [if_pos (by decide +kernel)]; kernel_rfl) | (rw [if_neg (by decide +kernel)]; exact ⟨rfl, rfl⟩))
    (fun os started H enc _ => lifted os started H enc)

/-- The statement. -/
theorem proved : Rows.FnExactPageAtSaid := over
#print axioms proved
end Go.Proofs.Ytjgphiialfhdlaa.fnExactPageAt
