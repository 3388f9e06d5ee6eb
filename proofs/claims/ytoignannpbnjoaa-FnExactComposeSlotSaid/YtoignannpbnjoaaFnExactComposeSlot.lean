/- The law FnExactComposeSlot returns true for every input: the program's ComposeSlot answers as the reference's and leaves its arguments alone. No condition. -/
import Derived.Test.YtoignannpbnjoaaRows
import Derived.Test.YtoignannpbnjoaaOpen
import Derived.Test.YtoignannpbnjoaaComp
import Derived.WalkKit
import Derived.ProofKit
import Derived.OpenShut
import Derived.ShutString
import Derived.ChangeOld
import Derived.Below
import Derived.Handy
import Derived.Carry
import Derived.Lib.SmallJoins
import Derived.WalkLawsBesides
import Derived.WalkSpells
namespace Go.Proofs.Ytoignannpbnjoaa.fnExactComposeSlot
open Go.ChangeShapes Go.WideShapes Go.ChangeAt Go.RowKit
open Go.ChangeMaps (open_string shut_string)
set_option linter.unusedVariables false
set_option linter.unusedSimpArgs false

set_option maxHeartbeats 2000000 in
theorem walk (a0 b0 : Int) (a1 : Option Addr) (len1 cap1 : Nat) (l1 : List Sl) (w : World) (w0 : (Lit.int .i64 a0).wf = true) (u0 : (Lit.int .i64 b0).wf = true) (h1 : Rd w 2 a1 len1 (slotCells l1) ∧ len1 ≤ maxLen) :
    Calls Try.prog 10 #[.agg #[.int .i64 a0, .int .i64 b0], .slice a1 len1 cap1] w fun e w' => e = .returned (.bool true) ∧ Below w.heap.size w w' := by
  clear w0 u0
  obtain ⟨R1, m1⟩ := h1
  by_cases z1 : (len1 : Int) ≤ 1048576
  rotate_left
  · skip
    clear R1
    go_enter Try.func10, Try.ntmps10
    have B0 := Below.refl w.heap.size w
    go_wp2_with fail
    refine (szSlotS_n a1 len1 cap1 _ _ m1 (by omega) (by omega) (by omega)).mono ?_
    rintro e w' ⟨rfl, rfl⟩
    go_wp2
    go_ret
    exact ⟨rfl, (Below.refl _ _).alloc (Nat.le_refl _) _⟩
  have y1 : len1 ≤ 1048576 := by omega
  obtain ⟨p, r, hs⟩ : ∃ p r, composeSlot (a0, b0) l1 = (p, r) := ⟨_, _, rfl⟩
  have HS := Lib.hid hs
  clear hs
  have B0 := Below.refl w.heap.size w
  have bin0 : (w.alloc (Obj.cells #[Value.int IntKind.i64 a0, Value.int IntKind.i64 b0] 37)).cell? ⟨w.heap.size, 0, none⟩ = some (.int .i64 a0) := by simp [go_sem]
  have bin1 : (w.alloc (Obj.cells #[Value.int IntKind.i64 a0, Value.int IntKind.i64 b0] 37)).cell? ⟨w.heap.size, 1, none⟩ = some (.int .i64 b0) := by simp [go_sem]
  have B1 := B0.alloc B0.size (Obj.cells #[Value.int IntKind.i64 a0, Value.int IntKind.i64 b0] 37)
  have S1 : w.heap.size + 1 ≤ (w.alloc (Obj.cells #[Value.int IntKind.i64 a0, Value.int IntKind.i64 b0] 37)).heap.size := by simp
  go_enter Try.func10, Try.ntmps10
  go_wp2_with fail
  generalize w.alloc (Obj.cells #[Value.int IntKind.i64 a0, Value.int IntKind.i64 b0] 37) = w1 at bin0 bin1 B1 S1 ⊢
  clear B0
  refine (szSlotS_y a1 len1 cap1 _ _ m1 (by omega) (by omega)).mono ?_
  rintro e w' ⟨rfl, rfl⟩
  go_wp2_with fail
  refine (toSlot_c _ _ _).mono ?_
  rintro e w2 ⟨rfl, hb2⟩
  have S2 := hb2.size
  have B2 := B1.trans (hb2.mono B1.size)
  have bin0' := below_keep hb2 _ _ bin0
  clear bin0
  have bin1' := below_keep hb2 _ _ bin1
  clear bin1
  clear hb2 B1
  go_wp2_with fail
  refine (toSlotS_c a1 len1 cap1 l1 _ (R1.below B2) y1).mono ?_
  rintro e w3 ⟨A_t1, c_t1, rfl, O_t1, hb3⟩
  have Z_t1 := O_t1
  have S3 := hb3.size
  have B3 := B2.trans (hb3.mono B2.size)
  have bin0'' := below_keep hb3 _ _ bin0'
  clear bin0'
  have bin1'' := below_keep hb3 _ _ bin1'
  clear bin1'
  clear hb3 B2
  go_wp2_with fail
  refine (sComposeSlot_c a0 b0 A_t1 len1 c_t1 l1 _ (Rd.of_own O_t1) y1 HS.out).mono ?_
  rintro e w4 ⟨rfl, hb4⟩
  have S4 := hb4.size
  have B4 := B3.trans (hb4.mono B3.size)
  have O_t1' := own_kept O_t1 hb4
  clear O_t1
  have bin0''' := below_keep hb4 _ _ bin0''
  clear bin0''
  have bin1''' := below_keep hb4 _ _ bin1''
  clear bin1''
  clear hb4 B3
  have bW0 : (w4.alloc (Obj.cells #[Value.int IntKind.i64 p, Value.int IntKind.i64 r] 30)).cell? ⟨w4.heap.size, 0, none⟩ = some (.int .i64 p) := by simp [go_sem]
  have bW1 : (w4.alloc (Obj.cells #[Value.int IntKind.i64 p, Value.int IntKind.i64 r] 30)).cell? ⟨w4.heap.size, 1, none⟩ = some (.int .i64 r) := by simp [go_sem]
  have B5 := B4.alloc B4.size (Obj.cells #[Value.int IntKind.i64 p, Value.int IntKind.i64 r] 30)
  have S5 : w4.heap.size + 1 ≤ (w4.alloc (Obj.cells #[Value.int IntKind.i64 p, Value.int IntKind.i64 r] 30)).heap.size := by simp
  have O_t1'' := O_t1'.alloc (Obj.cells #[Value.int IntKind.i64 p, Value.int IntKind.i64 r] 30)
  clear O_t1'
  have bin0'''' := (cel_alloc w4 (Obj.cells #[Value.int IntKind.i64 p, Value.int IntKind.i64 r] 30) (World.block_lt_of_cell? _ _ bin0''')).trans bin0'''
  clear bin0'''
  have bin1'''' := (cel_alloc w4 (Obj.cells #[Value.int IntKind.i64 p, Value.int IntKind.i64 r] 30) (World.block_lt_of_cell? _ _ bin1''')).trans bin1'''
  clear bin1'''
  go_wp2_with fail
  generalize w4.alloc (Obj.cells #[Value.int IntKind.i64 p, Value.int IntKind.i64 r] 30) = w5 at bW0 bW1 B5 S5 O_t1'' bin0'''' bin1'''' ⊢
  clear B4
  refine (toSlotS_c a1 len1 cap1 l1 _ (R1.below B5) y1).mono ?_
  rintro e w6 ⟨A_x1, c_x1, rfl, O_x1, hb6⟩
  have Z_x1 := O_x1
  have S6 := hb6.size
  have B6 := B5.trans (hb6.mono B5.size)
  have O_t1''' := own_kept O_t1'' hb6
  clear O_t1''
  have bin0''''' := below_keep hb6 _ _ bin0''''
  clear bin0''''
  have bin1''''' := below_keep hb6 _ _ bin1''''
  clear bin1''''
  have bW0' := below_keep hb6 _ _ bW0
  clear bW0
  have bW1' := below_keep hb6 _ _ bW1
  clear bW1
  clear hb6 B5
  go_wp2_with fail
  refine (toSlot_c _ _ _).mono ?_
  rintro e w7 ⟨rfl, hb7⟩
  have S7 := hb7.size
  have B7 := B6.trans (hb7.mono B6.size)
  have O_t1'''' := own_kept O_t1''' hb7
  clear O_t1'''
  have O_x1' := own_kept O_x1 hb7
  clear O_x1
  have bin0'''''' := below_keep hb7 _ _ bin0'''''
  clear bin0'''''
  have bin1'''''' := below_keep hb7 _ _ bin1'''''
  clear bin1'''''
  have bW0'' := below_keep hb7 _ _ bW0'
  clear bW0'
  have bW1'' := below_keep hb7 _ _ bW1'
  clear bW1'
  clear hb7 B6
  go_wp2_with fail
  refine (iComposeSlot_c a0 b0 A_x1 len1 c_x1 l1 _ (Rd.of_own O_x1') y1 HS.out).mono ?_
  rintro e w8 ⟨rfl, hb8⟩
  have S8 := hb8.size
  have B8 := B7.trans (hb8.mono B7.size)
  have O_t1''''' := own_kept O_t1'''' hb8
  clear O_t1''''
  have O_x1'' := own_kept O_x1' hb8
  clear O_x1'
  have bin0''''''' := below_keep hb8 _ _ bin0''''''
  clear bin0''''''
  have bin1''''''' := below_keep hb8 _ _ bin1''''''
  clear bin1''''''
  have bW0''' := below_keep hb8 _ _ bW0''
  clear bW0''
  have bW1''' := below_keep hb8 _ _ bW1''
  clear bW1''
  clear hb8 B7
  have bG0 : (w8.alloc (Obj.cells #[Value.int IntKind.i64 p, Value.int IntKind.i64 r] 30)).cell? ⟨w8.heap.size, 0, none⟩ = some (.int .i64 p) := by simp [go_sem]
  have bG1 : (w8.alloc (Obj.cells #[Value.int IntKind.i64 p, Value.int IntKind.i64 r] 30)).cell? ⟨w8.heap.size, 1, none⟩ = some (.int .i64 r) := by simp [go_sem]
  have B9 := B8.alloc B8.size (Obj.cells #[Value.int IntKind.i64 p, Value.int IntKind.i64 r] 30)
  have S9 : w8.heap.size + 1 ≤ (w8.alloc (Obj.cells #[Value.int IntKind.i64 p, Value.int IntKind.i64 r] 30)).heap.size := by simp
  have O_t1'''''' := O_t1'''''.alloc (Obj.cells #[Value.int IntKind.i64 p, Value.int IntKind.i64 r] 30)
  clear O_t1'''''
  have O_x1''' := O_x1''.alloc (Obj.cells #[Value.int IntKind.i64 p, Value.int IntKind.i64 r] 30)
  clear O_x1''
  have bin0'''''''' := (cel_alloc w8 (Obj.cells #[Value.int IntKind.i64 p, Value.int IntKind.i64 r] 30) (World.block_lt_of_cell? _ _ bin0''''''')).trans bin0'''''''
  clear bin0'''''''
  have bin1'''''''' := (cel_alloc w8 (Obj.cells #[Value.int IntKind.i64 p, Value.int IntKind.i64 r] 30) (World.block_lt_of_cell? _ _ bin1''''''')).trans bin1'''''''
  clear bin1'''''''
  have bW0'''' := (cel_alloc w8 (Obj.cells #[Value.int IntKind.i64 p, Value.int IntKind.i64 r] 30) (World.block_lt_of_cell? _ _ bW0''')).trans bW0'''
  clear bW0'''
  have bW1'''' := (cel_alloc w8 (Obj.cells #[Value.int IntKind.i64 p, Value.int IntKind.i64 r] 30) (World.block_lt_of_cell? _ _ bW1''')).trans bW1'''
  clear bW1'''
  go_wp2_with fail
  generalize w8.alloc (Obj.cells #[Value.int IntKind.i64 p, Value.int IntKind.i64 r] 30) = w9 at bG0 bG1 B9 S9 O_t1'''''' O_x1''' bin0'''''''' bin1'''''''' bW0'''' bW1'''' ⊢
  clear B8
  refine (eqSlot_t _ _ _).mono ?_
  rintro e w10 ⟨rfl, hb10⟩
  have S10 := hb10.size
  have B10 := B9.trans (hb10.mono B9.size)
  have O_t1''''''' := own_kept O_t1'''''' hb10
  clear O_t1''''''
  have O_x1'''' := own_kept O_x1''' hb10
  clear O_x1'''
  have bin0''''''''' := below_keep hb10 _ _ bin0''''''''
  clear bin0''''''''
  have bin1''''''''' := below_keep hb10 _ _ bin1''''''''
  clear bin1''''''''
  have bW0''''' := below_keep hb10 _ _ bW0''''
  clear bW0''''
  have bW1''''' := below_keep hb10 _ _ bW1''''
  clear bW1''''
  have bG0' := below_keep hb10 _ _ bG0
  clear bG0
  have bG1' := below_keep hb10 _ _ bG1
  clear bG1
  clear hb10 B9
  go_wp2_with fail
  refine (toSlotS_c a1 len1 cap1 l1 _ (R1.below B10) y1).mono ?_
  rintro e w11 ⟨A_y_1, c_y_1, rfl, O_y_1, hb11⟩
  have Z_y_1 := O_y_1
  have S11 := hb11.size
  have B11 := B10.trans (hb11.mono B10.size)
  have O_t1'''''''' := own_kept O_t1''''''' hb11
  clear O_t1'''''''
  have O_x1''''' := own_kept O_x1'''' hb11
  clear O_x1''''
  have bin0'''''''''' := below_keep hb11 _ _ bin0'''''''''
  clear bin0'''''''''
  have bin1'''''''''' := below_keep hb11 _ _ bin1'''''''''
  clear bin1'''''''''
  have bW0'''''' := below_keep hb11 _ _ bW0'''''
  clear bW0'''''
  have bW1'''''' := below_keep hb11 _ _ bW1'''''
  clear bW1'''''
  have bG0'' := below_keep hb11 _ _ bG0'
  clear bG0'
  have bG1'' := below_keep hb11 _ _ bG1'
  clear bG1'
  clear hb11 B10
  go_wp2_with fail
  refine (eqSlotS_t A_x1 A_y_1 len1 c_x1 c_y_1 l1 _ (Rd.of_own O_x1''''') (Rd.of_own O_y_1) (by omega)).mono ?_
  rintro e w12 ⟨rfl, hb12⟩
  have S12 := hb12.size
  have B12 := B11.trans (hb12.mono B11.size)
  have O_t1''''''''' := own_kept O_t1'''''''' hb12
  clear O_t1''''''''
  have O_x1'''''' := own_kept O_x1''''' hb12
  clear O_x1'''''
  have O_y_1' := own_kept O_y_1 hb12
  clear O_y_1
  have bin0''''''''''' := below_keep hb12 _ _ bin0''''''''''
  clear bin0''''''''''
  have bin1''''''''''' := below_keep hb12 _ _ bin1''''''''''
  clear bin1''''''''''
  have bW0''''''' := below_keep hb12 _ _ bW0''''''
  clear bW0''''''
  have bW1''''''' := below_keep hb12 _ _ bW1''''''
  clear bW1''''''
  have bG0''' := below_keep hb12 _ _ bG0''
  clear bG0''
  have bG1''' := below_keep hb12 _ _ bG1''
  clear bG1''
  clear hb12 B11
  go_wp2
  go_ret
  exact ⟨rfl, B12⟩

/-! ### The row's step -/
theorem own : ownKnob Try.prog.godebug = none := by kernel_rfl
theorem laidOut : laidOutB Try.prog = true := by kernel_rfl
set_option maxRecDepth 100000 in
theorem lifted (os : Os) (started : os.Started) (H : Type) (enc : TypeId × Value → H) :
    ReturnsInHanded {} Try.checked os 10 .any (Rows.fnExactComposeSlotSpec.pre6 enc Try.prog Try.f10 Rows.fnExactComposeSlotRow.domain false) (Rows.fnExactComposeSlotSpec.post enc Try.prog Try.f10 false true false false) := by
  refine returnsInHanded_of_change (C := Try.checked) own started (by kernel_rfl) Try.func10
    (ChangeSpec.witness6 (enc := enc) (C := Try.checked) false ⟨#[], #[.agg #[.int .i64 0, .int .i64 0], .slice none 0 0], []⟩ 8 (by kernel_rfl) (by kernel_rfl) (by kernel_rfl) (by kernel_rfl)) ?_
  intro W base args ds gs before hval0 hW hcnd _
  have hval : ∀ (j : Nat) t v, Try.f10.params[j]? = some t → args[j]? = some v → Value.okWide Try.prog W .any base t v := hval0
  have hW' := hW
  obtain ⟨p, q, hA0, hV, rfl, hfz, hnd⟩ := hW
  have hA : DataW.TrodAll enc Try.prog W 0 (fun _ => true) true Try.f10.params.toList args.toList ds p := hA0
  rw [Try.params10] at hA hval
  obtain ⟨v0, vs0, d0, ds0, p0, q0, hargs, rfl, rfl, h0, r0⟩ := trodAll_cons hA
  obtain ⟨v1, vs1, d1, ds1, p1, q1, rfl, rfl, rfl, h1, r1⟩ := trodAll_cons r0
  obtain ⟨rfl, rfl, rfl⟩ := trodAll_nil r1
  obtain rfl : args = #[v0, v1] := by cases args; simp_all
  obtain ⟨rfl, rfl⟩ := trodVars_none hV
  have k0 := h0
  have lt0 : ∀ x ∈ p0, x.block < W.heap.size := by obtain ⟨m, hm⟩ := k0; exact DataW.trod_lt m _ _ _ hm
  obtain ⟨c0, e0, y0, z0, n0, rfl, rfl, rfl, hy0, hz0⟩ := Go.Joins.open_agg2 Try.underlying37 (by kernel_rfl) (by kernel_rfl) (hval 0 37 v0 rfl rfl) h0
  obtain ⟨a0, he0, rfl, w0⟩ := DataW.trod_int Try.underlying3 hy0
  obtain ⟨b0, hf0, rfl, u0⟩ := DataW.trod_int Try.underlying3 hz0
  simp at he0 hf0
  subst he0 hf0
  have k1 := h1
  have lt1 : ∀ x ∈ p1, x.block < W.heap.size := by obtain ⟨m, hm⟩ := k1; exact DataW.trod_lt m _ _ _ hm
  obtain ⟨a1, len1, cap1, rfl⟩ := okWide_slice Try.underlying22 (hval 1 22 v1 rfl rfl)
  obtain ⟨l1, w1⟩ := open_slots k1
  clear hA0 hval0
  refine (walk a0 b0 a1 len1 cap1 l1 W w0 u0 w1).mono fun e W' ⟨he, bel⟩ => ?_
  subst he
  exact ⟨_, rfl, _, _, _, [], _, [], hW', trodAll_mk1 (shut_bool Try.underlying4 _), (trodAll_cons_mk (Below.trod laidOut (by kernel_rfl) (of_decide_eq_true (by kernel_rfl)) k0 bel lt0) (trodAll_cons_mk (Below.trod laidOut (by kernel_rfl) (of_decide_eq_true (by kernel_rfl)) k1 bel lt1) trodAll_mk0)), rfl, bel.frame _, fun h => by cases h⟩

theorem over : Rows.fnExactComposeSlotRow.holds Try.pinned (OpenSpec.ofChange Rows.fnExactComposeSlotSpec) :=
  OpenClaim.holds_of_wide 10 Try.f10 rfl rfl rfl rfl rfl rfl rfl ⟨rfl, rfl, rfl, rfl, rfl⟩ rfl rfl rfl rfl rfl (by kernel_rfl) Try.func10 (by kernel_rfl)
    (of_decide_eq_true (by kernel_rfl)) (by unfold Func.isWrapper; first | (rw [if_pos (by decide +kernel)]; kernel_rfl) | (rw [if_neg (by decide +kernel)]; exact ⟨rfl, rfl⟩))
    (fun os started H enc _ => lifted os started H enc)

/-- The statement. -/
theorem proved : Rows.FnExactComposeSlotSaid := over
#print axioms proved
end Go.Proofs.Ytoignannpbnjoaa.fnExactComposeSlot
