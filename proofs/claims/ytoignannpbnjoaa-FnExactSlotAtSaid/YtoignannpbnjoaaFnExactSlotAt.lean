/- The law FnExactSlotAt returns true for every input: the program's SlotAt answers as the reference's and leaves its arguments alone. No condition. -/
import Derived.Test.YtoignannpbnjoaaRows
import Derived.Test.YtoignannpbnjoaaOpen
import Derived.Test.YtoignannpbnjoaaTab
import Derived.WalkKit
import Derived.ProofKit
import Derived.OpenShut
import Derived.ShutString
import Derived.ChangeOld
import Derived.Below
import Derived.Handy
import Derived.Carry
import Derived.Lib.SmallJoins
import Derived.WalkLawsBesides
import Derived.WalkSpells
namespace Go.Proofs.Ytoignannpbnjoaa.fnExactSlotAt
open Go.ChangeShapes Go.WideShapes Go.ChangeAt Go.RowKit
open Go.ChangeMaps (open_string shut_string)
set_option linter.unusedVariables false
set_option linter.unusedSimpArgs false

set_option maxHeartbeats 2000000 in
theorem walk (a0 : Option Addr) (len0 cap0 : Nat) (l0 : List Sl) (a1 : Int) (w : World) (h0 : Rd w 2 a0 len0 (slotCells l0) ∧ len0 ≤ maxLen) (w1 : (Lit.int .i64 a1).wf = true) :
    Calls Try.prog 4 #[.slice a0 len0 cap0, .int .i64 a1] w fun e w' => e = .returned (.bool true) ∧ Below w.heap.size w w' := by
  obtain ⟨R0, m0⟩ := h0
  have g1 : a1 ≤ 9223372036854775807 := by simp [Lit.wf, IntKind.min, IntKind.max, IntKind.signed, IntKind.bits] at w1; omega
  clear w1
  by_cases z0 : (len0 : Int) ≤ 1048576
  rotate_left
  · skip
    clear R0
    go_enter Try.func4, Try.ntmps4
    have B0 := Below.refl w.heap.size w
    go_wp2_with fail
    refine (szSlotS_n a0 len0 cap0 _ _ m0 (by omega) (by omega) (by omega)).mono ?_
    rintro e w' ⟨rfl, rfl⟩
    go_wp2
    go_ret
    exact ⟨rfl, B0⟩
  have y0 : len0 ≤ 1048576 := by omega
  obtain ⟨p, r, hs⟩ : ∃ p r, slotAt l0 a1 = (p, r) := ⟨_, _, rfl⟩
  have HS := Lib.hid hs
  clear hs
  go_enter Try.func4, Try.ntmps4
  have B0 := Below.refl w.heap.size w
  go_wp2_with fail
  refine (szSlotS_y a0 len0 cap0 _ _ m0 (by omega) (by omega)).mono ?_
  rintro e w' ⟨rfl, rfl⟩
  go_wp2_with fail
  refine (toSlotS_c a0 len0 cap0 l0 _ (R0.below B0) y0).mono ?_
  rintro e w1 ⟨A_t0, c_t0, rfl, O_t0, hb1⟩
  have Z_t0 := O_t0
  have S1 := hb1.size
  have B1 := B0.trans (hb1.mono B0.size)
  clear hb1 B0
  go_wp2_with fail
  refine (sSlotAt_c A_t0 len0 c_t0 l0 a1 _ (Rd.of_own O_t0) y0 HS.out).mono ?_
  rintro e w2 ⟨rfl, hb2⟩
  have S2 := hb2.size
  have B2 := B1.trans (hb2.mono B1.size)
  have O_t0' := own_kept O_t0 hb2
  clear O_t0
  clear hb2 B1
  have bW0 : (w2.alloc (Obj.cells #[Value.int IntKind.i64 p, Value.int IntKind.i64 r] 30)).cell? ⟨w2.heap.size, 0, none⟩ = some (.int .i64 p) := by simp [go_sem]
  have bW1 : (w2.alloc (Obj.cells #[Value.int IntKind.i64 p, Value.int IntKind.i64 r] 30)).cell? ⟨w2.heap.size, 1, none⟩ = some (.int .i64 r) := by simp [go_sem]
  have B3 := B2.alloc B2.size (Obj.cells #[Value.int IntKind.i64 p, Value.int IntKind.i64 r] 30)
  have S3 : w2.heap.size + 1 ≤ (w2.alloc (Obj.cells #[Value.int IntKind.i64 p, Value.int IntKind.i64 r] 30)).heap.size := by simp
  have O_t0'' := O_t0'.alloc (Obj.cells #[Value.int IntKind.i64 p, Value.int IntKind.i64 r] 30)
  clear O_t0'
  go_wp2_with fail
  generalize w2.alloc (Obj.cells #[Value.int IntKind.i64 p, Value.int IntKind.i64 r] 30) = w3 at bW0 bW1 B3 S3 O_t0'' ⊢
  clear B2
  refine (toSlotS_c a0 len0 cap0 l0 _ (R0.below B3) y0).mono ?_
  rintro e w4 ⟨A_x0, c_x0, rfl, O_x0, hb4⟩
  have Z_x0 := O_x0
  have S4 := hb4.size
  have B4 := B3.trans (hb4.mono B3.size)
  have O_t0''' := own_kept O_t0'' hb4
  clear O_t0''
  have bW0' := below_keep hb4 _ _ bW0
  clear bW0
  have bW1' := below_keep hb4 _ _ bW1
  clear bW1
  clear hb4 B3
  go_wp2_with fail
  refine (iSlotAt_c A_x0 len0 c_x0 l0 a1 _ (Rd.of_own O_x0) y0 HS.out).mono ?_
  rintro e w5 ⟨rfl, hb5⟩
  have S5 := hb5.size
  have B5 := B4.trans (hb5.mono B4.size)
  have O_t0'''' := own_kept O_t0''' hb5
  clear O_t0'''
  have O_x0' := own_kept O_x0 hb5
  clear O_x0
  have bW0'' := below_keep hb5 _ _ bW0'
  clear bW0'
  have bW1'' := below_keep hb5 _ _ bW1'
  clear bW1'
  clear hb5 B4
  have bG0 : (w5.alloc (Obj.cells #[Value.int IntKind.i64 p, Value.int IntKind.i64 r] 30)).cell? ⟨w5.heap.size, 0, none⟩ = some (.int .i64 p) := by simp [go_sem]
  have bG1 : (w5.alloc (Obj.cells #[Value.int IntKind.i64 p, Value.int IntKind.i64 r] 30)).cell? ⟨w5.heap.size, 1, none⟩ = some (.int .i64 r) := by simp [go_sem]
  have B6 := B5.alloc B5.size (Obj.cells #[Value.int IntKind.i64 p, Value.int IntKind.i64 r] 30)
  have S6 : w5.heap.size + 1 ≤ (w5.alloc (Obj.cells #[Value.int IntKind.i64 p, Value.int IntKind.i64 r] 30)).heap.size := by simp
  have O_t0''''' := O_t0''''.alloc (Obj.cells #[Value.int IntKind.i64 p, Value.int IntKind.i64 r] 30)
  clear O_t0''''
  have O_x0'' := O_x0'.alloc (Obj.cells #[Value.int IntKind.i64 p, Value.int IntKind.i64 r] 30)
  clear O_x0'
  have bW0''' := (cel_alloc w5 (Obj.cells #[Value.int IntKind.i64 p, Value.int IntKind.i64 r] 30) (World.block_lt_of_cell? _ _ bW0'')).trans bW0''
  clear bW0''
  have bW1''' := (cel_alloc w5 (Obj.cells #[Value.int IntKind.i64 p, Value.int IntKind.i64 r] 30) (World.block_lt_of_cell? _ _ bW1'')).trans bW1''
  clear bW1''
  go_wp2_with fail
  generalize w5.alloc (Obj.cells #[Value.int IntKind.i64 p, Value.int IntKind.i64 r] 30) = w6 at bG0 bG1 B6 S6 O_t0''''' O_x0'' bW0''' bW1''' ⊢
  clear B5
  refine (eqSlot_t _ _ _).mono ?_
  rintro e w7 ⟨rfl, hb7⟩
  have S7 := hb7.size
  have B7 := B6.trans (hb7.mono B6.size)
  have O_t0'''''' := own_kept O_t0''''' hb7
  clear O_t0'''''
  have O_x0''' := own_kept O_x0'' hb7
  clear O_x0''
  have bW0'''' := below_keep hb7 _ _ bW0'''
  clear bW0'''
  have bW1'''' := below_keep hb7 _ _ bW1'''
  clear bW1'''
  have bG0' := below_keep hb7 _ _ bG0
  clear bG0
  have bG1' := below_keep hb7 _ _ bG1
  clear bG1
  clear hb7 B6
  go_wp2_with fail
  refine (toSlotS_c a0 len0 cap0 l0 _ (R0.below B7) y0).mono ?_
  rintro e w8 ⟨A_y_0, c_y_0, rfl, O_y_0, hb8⟩
  have Z_y_0 := O_y_0
  have S8 := hb8.size
  have B8 := B7.trans (hb8.mono B7.size)
  have O_t0''''''' := own_kept O_t0'''''' hb8
  clear O_t0''''''
  have O_x0'''' := own_kept O_x0''' hb8
  clear O_x0'''
  have bW0''''' := below_keep hb8 _ _ bW0''''
  clear bW0''''
  have bW1''''' := below_keep hb8 _ _ bW1''''
  clear bW1''''
  have bG0'' := below_keep hb8 _ _ bG0'
  clear bG0'
  have bG1'' := below_keep hb8 _ _ bG1'
  clear bG1'
  clear hb8 B7
  go_wp2_with fail
  refine (eqSlotS_t A_x0 A_y_0 len0 c_x0 c_y_0 l0 _ (Rd.of_own O_x0'''') (Rd.of_own O_y_0) (by omega)).mono ?_
  rintro e w9 ⟨rfl, hb9⟩
  have S9 := hb9.size
  have B9 := B8.trans (hb9.mono B8.size)
  have O_t0'''''''' := own_kept O_t0''''''' hb9
  clear O_t0'''''''
  have O_x0''''' := own_kept O_x0'''' hb9
  clear O_x0''''
  have O_y_0' := own_kept O_y_0 hb9
  clear O_y_0
  have bW0'''''' := below_keep hb9 _ _ bW0'''''
  clear bW0'''''
  have bW1'''''' := below_keep hb9 _ _ bW1'''''
  clear bW1'''''
  have bG0''' := below_keep hb9 _ _ bG0''
  clear bG0''
  have bG1''' := below_keep hb9 _ _ bG1''
  clear bG1''
  clear hb9 B8
  go_wp2
  go_ret
  exact ⟨rfl, B9⟩

/-! ### The row's step -/
theorem own : ownKnob Try.prog.godebug = none := by kernel_rfl
theorem laidOut : laidOutB Try.prog = true := by kernel_rfl
set_option maxRecDepth 100000 in
theorem lifted (os : Os) (started : os.Started) (H : Type) (enc : TypeId × Value → H) :
    ReturnsInHanded {} Try.checked os 4 .any (Rows.fnExactSlotAtSpec.pre6 enc Try.prog Try.f4 Rows.fnExactSlotAtRow.domain false) (Rows.fnExactSlotAtSpec.post enc Try.prog Try.f4 false true false false) := by
  refine returnsInHanded_of_change (C := Try.checked) own started (by kernel_rfl) Try.func4
    (ChangeSpec.witness6 (enc := enc) (C := Try.checked) false ⟨#[], #[.slice none 0 0, .int .i64 0], []⟩ 8 (by kernel_rfl) (by kernel_rfl) (by kernel_rfl) (by kernel_rfl)) ?_
  intro W base args ds gs before hval0 hW hcnd _
  have hval : ∀ (j : Nat) t v, Try.f4.params[j]? = some t → args[j]? = some v → Value.okWide Try.prog W .any base t v := hval0
  have hW' := hW
  obtain ⟨p, q, hA0, hV, rfl, hfz, hnd⟩ := hW
  have hA : DataW.TrodAll enc Try.prog W 0 (fun _ => true) true Try.f4.params.toList args.toList ds p := hA0
  rw [Try.params4] at hA hval
  obtain ⟨v0, vs0, d0, ds0, p0, q0, hargs, rfl, rfl, h0, r0⟩ := trodAll_cons hA
  obtain ⟨v1, vs1, d1, ds1, p1, q1, rfl, rfl, rfl, h1, r1⟩ := trodAll_cons r0
  obtain ⟨rfl, rfl, rfl⟩ := trodAll_nil r1
  obtain rfl : args = #[v0, v1] := by cases args; simp_all
  obtain ⟨rfl, rfl⟩ := trodVars_none hV
  have k0 := h0
  have lt0 : ∀ x ∈ p0, x.block < W.heap.size := by obtain ⟨m, hm⟩ := k0; exact DataW.trod_lt m _ _ _ hm
  obtain ⟨a0, len0, cap0, rfl⟩ := okWide_slice Try.underlying22 (hval 0 22 v0 rfl rfl)
  obtain ⟨l0, w0⟩ := open_slots k0
  have k1 := h1
  have lt1 : ∀ x ∈ p1, x.block < W.heap.size := by obtain ⟨m, hm⟩ := k1; exact DataW.trod_lt m _ _ _ hm
  obtain ⟨a1, rfl, rfl, rfl, w1⟩ := open_int Try.underlying3 (hval 1 3 v1 rfl rfl) h1
  clear hA0 hval0
  refine (walk a0 len0 cap0 l0 a1 W w0 w1).mono fun e W' ⟨he, bel⟩ => ?_
  subst he
  exact ⟨_, rfl, _, _, _, [], _, [], hW', trodAll_mk1 (shut_bool Try.underlying4 _), (trodAll_cons_mk (Below.trod laidOut (by kernel_rfl) (of_decide_eq_true (by kernel_rfl)) k0 bel lt0) (trodAll_cons_mk (Below.trod laidOut (by kernel_rfl) (of_decide_eq_true (by kernel_rfl)) k1 bel lt1) trodAll_mk0)), rfl, bel.frame _, fun h => by cases h⟩

theorem over : Rows.fnExactSlotAtRow.holds Try.pinned (OpenSpec.ofChange Rows.fnExactSlotAtSpec) :=
  OpenClaim.holds_of_wide 4 Try.f4 rfl rfl rfl rfl rfl rfl rfl ⟨rfl, rfl, rfl, rfl, rfl⟩ rfl rfl rfl rfl rfl (by kernel_rfl) Try.func4 (by kernel_rfl)
    (of_decide_eq_true (by kernel_rfl)) (by unfold Func.isWrapper; first | (rw [if_pos (by decide +kernel)]; kernel_rfl) | (rw [if_neg (by decide +kernel)]; exact ⟨rfl, rfl⟩))
    (fun os started H enc _ => lifted os started H enc)

/-- The statement. -/
theorem proved : Rows.FnExactSlotAtSaid := over
#print axioms proved
end Go.Proofs.Ytoignannpbnjoaa.fnExactSlotAt
