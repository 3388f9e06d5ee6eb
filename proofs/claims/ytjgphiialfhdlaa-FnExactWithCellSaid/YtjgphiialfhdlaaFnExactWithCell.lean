/- The law FnExactWithCell returns true for every input: the program's WithCell answers as the reference's and leaves its arguments alone. No condition. -/
import Derived.Test.YtjgphiialfhdlaaRows
import Derived.Test.YtjgphiialfhdlaaOpenM
import Derived.Test.YtjgphiialfhdlaaMemF6
import Derived.WalkKit
import Derived.ProofKit
import Derived.OpenShut
import Derived.ShutString
import Derived.ChangeOld
import Derived.Below
import Derived.Handy
import Derived.Carry
import Derived.Lib.SmallJoins
import Derived.WalkLawsBesides
import Derived.WalkSpells
namespace Go.Proofs.Ytjgphiialfhdlaa.fnExactWithCell
open Go.ChangeShapes Go.WideShapes Go.ChangeAt Go.RowKit
open Go.ChangeMaps (open_string shut_string)
set_option linter.unusedVariables false
set_option linter.unusedSimpArgs false

set_option maxHeartbeats 2000000 in
theorem walk (a0 : Option Addr) (len0 cap0 : Nat) (l0 : List (List Int)) (a1 : Int) (a2 : Int) (a3 : Int) (w : World) (h0 : Mx w a0 len0 l0 ∧ len0 ≤ maxLen ∧ ∀ (i : Nat) (l : List Int), l0[i]? = some l → l.length ≤ maxLen) (w1 : (Lit.int .i64 a1).wf = true) (w2 : (Lit.int .i64 a2).wf = true) (w3 : (Lit.int .i64 a3).wf = true) :
    Calls Try.prog 7 #[.slice a0 len0 cap0, .int .i64 a1, .int .i64 a2, .int .i64 a3] w fun e w' => e = .returned (.bool true) ∧ Below w.heap.size w w' := by
  obtain ⟨R0, m0, q0⟩ := h0
  clear w1
  clear w2
  clear w3
  by_cases z0 : (len0 : Int) + sumLen l0 ≤ 1048576
  rotate_left
  · skip
    go_enter Try.func7, Try.ntmps7
    have B0 := Below.refl w.heap.size w
    go_wp2_with fail
    refine (szIntSS_n a0 len0 cap0 l0 _ _ R0 m0 q0 (by omega) (by omega) (by omega)).mono ?_
    rintro e w' ⟨rfl, rfl⟩
    go_wp2
    go_ret
    exact ⟨rfl, B0⟩
  have y0 : len0 ≤ 1048576 := by omega
  have s0 : sumLen l0 ≤ 1048576 := by omega
  have r0 : Rows l0 := fun i l h => Nat.le_trans (sumLen_row l0 i l h) s0
  have rG : Rows (withCell l0 a1 a2 a3) := withCell_rows l0 a1 a2 a3 r0
  have sG : sumLen (withCell l0 a1 a2 a3) ≤ 1048576 := by rw [withCell_sum]; exact s0
  go_enter Try.func7, Try.ntmps7
  have B0 := Below.refl w.heap.size w
  go_wp2_with fail
  refine (szIntSS_y a0 len0 cap0 l0 _ _ R0 m0 q0 (by omega) (by omega)).mono ?_
  rintro e w' ⟨rfl, rfl⟩
  clear q0
  go_wp2_with fail
  refine (toIntSS_c a0 len0 cap0 l0 _ (R0.below B0) y0 r0).mono ?_
  rintro e w1 ⟨A_t0, c_t0, v_t0, rfl, O_t0, hb1⟩
  have Z_t0 := O_t0
  have S1 := hb1.size
  have B1 := B0.trans (hb1.mono B0.size)
  clear hb1 B0
  go_wp2_with fail
  refine (sWithCell_c a1 a2 a3 A_t0 len0 c_t0 l0 _ (O_t0.mx) y0 r0).mono ?_
  rintro e w2 ⟨A_W, c_W, v_W, rfl, O_W, hb2⟩
  have Z_W := O_W
  have S2 := hb2.size
  have B2 := B1.trans (hb2.mono B1.size)
  have O_t0' := O_t0.kept hb2
  clear O_t0
  clear hb2 B1
  go_wp2_with fail
  refine (toIntSS_c a0 len0 cap0 l0 _ (R0.below B2) y0 r0).mono ?_
  rintro e w3 ⟨A_x0, c_x0, v_x0, rfl, O_x0, hb3⟩
  have Z_x0 := O_x0
  have S3 := hb3.size
  have B3 := B2.trans (hb3.mono B2.size)
  have O_t0'' := O_t0'.kept hb3
  clear O_t0'
  have O_W' := O_W.kept hb3
  clear O_W
  clear hb3 B2
  go_wp2_with fail
  refine (iWithCell_c a1 a2 a3 A_x0 len0 c_x0 l0 _ (O_x0.mx) y0 r0).mono ?_
  rintro e w4 ⟨A_G, c_G, v_G, rfl, O_G, hb4⟩
  have Z_G := O_G
  have S4 := hb4.size
  have B4 := B3.trans (hb4.mono B3.size)
  have O_t0''' := O_t0''.kept hb4
  clear O_t0''
  have O_W'' := O_W'.kept hb4
  clear O_W'
  have O_x0' := O_x0.kept hb4
  clear O_x0
  clear hb4 B3
  go_wp2_with fail
  refine (eqIntSS_t A_G A_W len0 c_G c_W ((withCell l0 a1 a2 a3)) _ (O_G.mx) (O_W''.mx) (by omega) rG).mono ?_
  rintro e w5 ⟨rfl, hb5⟩
  have S5 := hb5.size
  have B5 := B4.trans (hb5.mono B4.size)
  have O_t0'''' := O_t0'''.kept hb5
  clear O_t0'''
  have O_W''' := O_W''.kept hb5
  clear O_W''
  have O_x0'' := O_x0'.kept hb5
  clear O_x0'
  have O_G' := O_G.kept hb5
  clear O_G
  clear hb5 B4
  go_wp2_with fail
  refine (toIntSS_c a0 len0 cap0 l0 _ (R0.below B5) y0 r0).mono ?_
  rintro e w6 ⟨A_y_0, c_y_0, v_y_0, rfl, O_y_0, hb6⟩
  have Z_y_0 := O_y_0
  have S6 := hb6.size
  have B6 := B5.trans (hb6.mono B5.size)
  have O_t0''''' := O_t0''''.kept hb6
  clear O_t0''''
  have O_W'''' := O_W'''.kept hb6
  clear O_W'''
  have O_x0''' := O_x0''.kept hb6
  clear O_x0''
  have O_G'' := O_G'.kept hb6
  clear O_G'
  clear hb6 B5
  go_wp2_with fail
  refine (eqIntSS_t A_x0 A_y_0 len0 c_x0 c_y_0 l0 _ (O_x0'''.mx) (O_y_0.mx) (by omega) r0).mono ?_
  rintro e w7 ⟨rfl, hb7⟩
  have S7 := hb7.size
  have B7 := B6.trans (hb7.mono B6.size)
  have O_t0'''''' := O_t0'''''.kept hb7
  clear O_t0'''''
  have O_W''''' := O_W''''.kept hb7
  clear O_W''''
  have O_x0'''' := O_x0'''.kept hb7
  clear O_x0'''
  have O_G''' := O_G''.kept hb7
  clear O_G''
  have O_y_0' := O_y_0.kept hb7
  clear O_y_0
  clear hb7 B6
  go_wp2_with fail
  refine (markIntSS_c A_x0 len0 c_x0 l0 v_x0 1 _ _ O_x0'''' (by omega) r0 (by omega) (by omega) (by omega)).mono ?_
  rintro e w8 ⟨rfl, OM8, hg8⟩
  have GS8 := hg8
  have S8 := GS8.size
  have B8 := below_S B7 GS8 (fun k hk => by have := Z_x0.inRows_lt hk; omega)
  have O_t0''''''' := O_t0''''''.keptS GS8 (fun k hk hs => by have a := Z_t0.row.lt k hk; have b := Z_x0.inRows_lt hs; omega) (fun k hk hs => by have a := Z_t0.inRows_lt hk; have b := Z_x0.inRows_lt hs; omega)
  clear O_t0''''''
  have O_W'''''' := O_W'''''.keptS GS8 (fun k hk hs => by have a := Z_W.row.lt k hk; have b := Z_x0.inRows_lt hs; omega) (fun k hk hs => by have a := Z_W.inRows_lt hk; have b := Z_x0.inRows_lt hs; omega)
  clear O_W'''''
  have O_G'''' := O_G'''.keptS GS8 (fun k hk hs => by have a := Z_G.row.lt k hk; have b := Z_x0.inRows_lt hs; omega) (fun k hk hs => by have a := Z_G.inRows_lt hk; have b := Z_x0.inRows_lt hs; omega)
  clear O_G'''
  have O_y_0'' := O_y_0'.keptS GS8 (fun k hk hs => by have a := Z_y_0.row.lt k hk; have b := Z_x0.inRows_lt hs; omega) (fun k hk hs => by have a := Z_y_0.inRows_lt hk; have b := Z_x0.inRows_lt hs; omega)
  clear O_y_0'
  clear hg8 GS8 B7 O_x0''''
  go_wp2_with fail
  refine (eqIntSS_t A_G A_W len0 c_G c_W ((withCell l0 a1 a2 a3)) _ (O_G''''.mx) (O_W''''''.mx) (by omega) rG).mono ?_
  rintro e w9 ⟨rfl, hb9⟩
  have S9 := hb9.size
  have B9 := B8.trans (hb9.mono B8.size)
  have O_t0'''''''' := O_t0'''''''.kept hb9
  clear O_t0'''''''
  have O_W''''''' := O_W''''''.kept hb9
  clear O_W''''''
  have OM8' := OM8.kept hb9
  clear OM8
  have O_G''''' := O_G''''.kept hb9
  clear O_G''''
  have O_y_0''' := O_y_0''.kept hb9
  clear O_y_0''
  clear hb9 B8
  go_wp2_with fail
  refine (markIntSS_c A_G len0 c_G ((withCell l0 a1 a2 a3)) v_G 1 _ _ O_G''''' (by omega) rG (by omega) (by omega) (by omega)).mono ?_
  rintro e w10 ⟨rfl, OM10, hg10⟩
  have GS10 := hg10
  have S10 := GS10.size
  have B10 := below_S B9 GS10 (fun k hk => by have := Z_G.inRows_lt hk; omega)
  have O_t0''''''''' := O_t0''''''''.keptS GS10 (fun k hk hs => by have a := Z_t0.row.lt k hk; have b := Z_G.inRows_lt hs; omega) (fun k hk hs => by have a := Z_t0.inRows_lt hk; have b := Z_G.inRows_lt hs; omega)
  clear O_t0''''''''
  have O_W'''''''' := O_W'''''''.keptS GS10 (fun k hk hs => by have a := Z_W.row.lt k hk; have b := Z_G.inRows_lt hs; omega) (fun k hk hs => by have a := Z_W.inRows_lt hk; have b := Z_G.inRows_lt hs; omega)
  clear O_W'''''''
  have OM8'' := OM8'.keptS GS10 (fun k hk hs => by have a := Z_x0.row.lt k hk; have b := Z_G.inRows_lt hs; omega) (fun k hk hs => by have a := Z_x0.inRows_lt hk; have b := Z_G.inRows_lt hs; omega)
  clear OM8'
  have O_y_0'''' := O_y_0'''.keptS GS10 (fun k hk hs => by have a := Z_y_0.row.lt k hk; have b := Z_G.inRows_lt hs; omega) (fun k hk hs => by have a := Z_y_0.inRows_lt hk; have b := Z_G.inRows_lt hs; omega)
  clear O_y_0'''
  clear hg10 GS10 B9 O_G'''''
  go_wp2_with fail
  refine (heldIntSS_c A_G len0 c_G ((withCell l0 a1 a2 a3)) 1 _ (OM10.mx) (by omega) rG (by omega) (by omega) (by omega)).mono ?_
  rintro e w' ⟨rfl, rfl⟩
  go_wp2_with fail
  refine (toIntSS_c a0 len0 cap0 l0 _ (R0.below B10) y0 r0).mono ?_
  rintro e w11 ⟨A_h0, c_h0, v_h0, rfl, O_h0, hb11⟩
  have Z_h0 := O_h0
  have S11 := hb11.size
  have B11 := B10.trans (hb11.mono B10.size)
  have O_t0'''''''''' := O_t0'''''''''.kept hb11
  clear O_t0'''''''''
  have O_W''''''''' := O_W''''''''.kept hb11
  clear O_W''''''''
  have OM8''' := OM8''.kept hb11
  clear OM8''
  have OM10' := OM10.kept hb11
  clear OM10
  have O_y_0''''' := O_y_0''''.kept hb11
  clear O_y_0''''
  clear hb11 B10
  go_wp2_with fail
  refine (iWithCell_c a1 a2 a3 A_h0 len0 c_h0 l0 _ (O_h0.mx) y0 r0).mono ?_
  rintro e w12 ⟨A_H, c_H, v_H, rfl, O_H, hb12⟩
  have Z_H := O_H
  have S12 := hb12.size
  have B12 := B11.trans (hb12.mono B11.size)
  have O_t0''''''''''' := O_t0''''''''''.kept hb12
  clear O_t0''''''''''
  have O_W'''''''''' := O_W'''''''''.kept hb12
  clear O_W'''''''''
  have OM8'''' := OM8'''.kept hb12
  clear OM8'''
  have OM10'' := OM10'.kept hb12
  clear OM10'
  have O_y_0'''''' := O_y_0'''''.kept hb12
  clear O_y_0'''''
  have O_h0' := O_h0.kept hb12
  clear O_h0
  clear hb12 B11
  go_wp2_with fail
  refine (eqIntSS_t A_H A_W len0 c_H c_W ((withCell l0 a1 a2 a3)) _ (O_H.mx) (O_W''''''''''.mx) (by omega) rG).mono ?_
  rintro e w13 ⟨rfl, hb13⟩
  have S13 := hb13.size
  have B13 := B12.trans (hb13.mono B12.size)
  have O_t0'''''''''''' := O_t0'''''''''''.kept hb13
  clear O_t0'''''''''''
  have O_W''''''''''' := O_W''''''''''.kept hb13
  clear O_W''''''''''
  have OM8''''' := OM8''''.kept hb13
  clear OM8''''
  have OM10''' := OM10''.kept hb13
  clear OM10''
  have O_y_0''''''' := O_y_0''''''.kept hb13
  clear O_y_0''''''
  have O_h0'' := O_h0'.kept hb13
  clear O_h0'
  have O_H' := O_H.kept hb13
  clear O_H
  clear hb13 B12
  go_wp2_with fail
  refine (heldIntSS_c A_G len0 c_G ((withCell l0 a1 a2 a3)) 1 _ (OM10'''.mx) (by omega) rG (by omega) (by omega) (by omega)).mono ?_
  rintro e w' ⟨rfl, rfl⟩
  go_wp2
  go_ret
  exact ⟨rfl, B13⟩

/-! ### The row's step -/
theorem own : ownKnob Try.prog.godebug = none := by kernel_rfl
theorem laidOut : laidOutB Try.prog = true := by kernel_rfl
set_option maxRecDepth 100000 in
theorem lifted (os : Os) (started : os.Started) (H : Type) (enc : TypeId × Value → H) :
    ReturnsInHanded {} Try.checked os 7 .any (Rows.fnExactWithCellSpec.pre6 enc Try.prog Try.f7 Rows.fnExactWithCellRow.domain false) (Rows.fnExactWithCellSpec.post enc Try.prog Try.f7 false true false false) := by
  refine returnsInHanded_of_change (C := Try.checked) own started (by kernel_rfl) Try.func7
    (ChangeSpec.witness6 (enc := enc) (C := Try.checked) false ⟨#[], #[.slice none 0 0, .int .i64 0, .int .i64 0, .int .i64 0], []⟩ 8 (by kernel_rfl) (by kernel_rfl) (by kernel_rfl) (by kernel_rfl)) ?_
  intro W base args ds gs before hval0 hW hcnd _
  have hval : ∀ (j : Nat) t v, Try.f7.params[j]? = some t → args[j]? = some v → Value.okWide Try.prog W .any base t v := hval0
  have hW' := hW
  obtain ⟨p, q, hA0, hV, rfl, hfz, hnd⟩ := hW
  have hA : DataW.TrodAll enc Try.prog W 0 (fun _ => true) true Try.f7.params.toList args.toList ds p := hA0
  rw [Try.params7] at hA hval
  obtain ⟨v0, vs0, d0, ds0, p0, q0, hargs, rfl, rfl, h0, r0⟩ := trodAll_cons hA
  obtain ⟨v1, vs1, d1, ds1, p1, q1, rfl, rfl, rfl, h1, r1⟩ := trodAll_cons r0
  obtain ⟨v2, vs2, d2, ds2, p2, q2, rfl, rfl, rfl, h2, r2⟩ := trodAll_cons r1
  obtain ⟨v3, vs3, d3, ds3, p3, q3, rfl, rfl, rfl, h3, r3⟩ := trodAll_cons r2
  obtain ⟨rfl, rfl, rfl⟩ := trodAll_nil r3
  obtain rfl : args = #[v0, v1, v2, v3] := by cases args; simp_all
  obtain ⟨rfl, rfl⟩ := trodVars_none hV
  have k0 := h0
  have lt0 : ∀ x ∈ p0, x.block < W.heap.size := by obtain ⟨m, hm⟩ := k0; exact DataW.trod_lt m _ _ _ hm
  obtain ⟨a0, len0, cap0, rfl⟩ := okWide_slice Try.underlying26 (hval 0 26 v0 rfl rfl)
  obtain ⟨l0, w0⟩ := opn_intss k0
  have k1 := h1
  have lt1 : ∀ x ∈ p1, x.block < W.heap.size := by obtain ⟨m, hm⟩ := k1; exact DataW.trod_lt m _ _ _ hm
  obtain ⟨a1, rfl, rfl, rfl, w1⟩ := open_int Try.underlying3 (hval 1 3 v1 rfl rfl) h1
  have k2 := h2
  have lt2 : ∀ x ∈ p2, x.block < W.heap.size := by obtain ⟨m, hm⟩ := k2; exact DataW.trod_lt m _ _ _ hm
  obtain ⟨a2, rfl, rfl, rfl, w2⟩ := open_int Try.underlying3 (hval 2 3 v2 rfl rfl) h2
  have k3 := h3
  have lt3 : ∀ x ∈ p3, x.block < W.heap.size := by obtain ⟨m, hm⟩ := k3; exact DataW.trod_lt m _ _ _ hm
  obtain ⟨a3, rfl, rfl, rfl, w3⟩ := open_int Try.underlying3 (hval 3 3 v3 rfl rfl) h3
  clear hA0 hval0
  refine (walk a0 len0 cap0 l0 a1 a2 a3 W w0 w1 w2 w3).mono fun e W' ⟨he, bel⟩ => ?_
  subst he
  exact ⟨_, rfl, _, _, _, [], _, [], hW', trodAll_mk1 (shut_bool Try.underlying4 _), (trodAll_cons_mk (Below.trod laidOut (by kernel_rfl) (of_decide_eq_true (by kernel_rfl)) k0 bel lt0) (trodAll_cons_mk (Below.trod laidOut (by kernel_rfl) (of_decide_eq_true (by kernel_rfl)) k1 bel lt1) (trodAll_cons_mk (Below.trod laidOut (by kernel_rfl) (of_decide_eq_true (by kernel_rfl)) k2 bel lt2) (trodAll_cons_mk (Below.trod laidOut (by kernel_rfl) (of_decide_eq_true (by kernel_rfl)) k3 bel lt3) trodAll_mk0)))), rfl, bel.frame _, fun h => by cases h⟩

theorem over : Rows.fnExactWithCellRow.holds Try.pinned (OpenSpec.ofChange Rows.fnExactWithCellSpec) :=
  OpenClaim.holds_of_wide 7 Try.f7 rfl rfl rfl rfl rfl rfl rfl ⟨rfl, rfl, rfl, rfl, rfl⟩ rfl rfl rfl rfl rfl (by kernel_rfl) Try.func7 (by kernel_rfl)
    (of_decide_eq_true (by kernel_rfl)) (by unfold Func.isWrapper; first | (rw [if_pos (by decide +kernel)]; kernel_rfl) | (rw [if_neg (by decide +kernel)]; exact ⟨rfl, rfl⟩))
    (fun os started H enc _ => lifted os started H enc)

/-- The statement. -/
theorem proved : Rows.FnExactWithCellSaid := over
#print axioms proved
end Go.Proofs.Ytjgphiialfhdlaa.fnExactWithCell
