/- The law FnExactPartsOf returns true for every input: the program's PartsOf answers as the reference's. No condition. -/
import Derived.Test.YthieianmlfejgaaRows
import Derived.Test.YthieianmlfejgaaParts
import Derived.WalkKit
import Derived.ProofKit
import Derived.OpenShut
import Derived.ShutString
import Derived.ChangeOld
import Derived.Below
import Derived.Handy
import Derived.Carry
import Derived.Lib.SmallJoins
import Derived.WalkLawsBesides
import Derived.WalkSpells
namespace Go.Proofs.Ythieianmlfejgaa.fnExactPartsOf
open Go.ChangeShapes Go.WideShapes Go.ChangeAt Go.RowKit
open Go.ChangeMaps (open_string shut_string)
set_option linter.unusedVariables false
set_option linter.unusedSimpArgs false

set_option maxHeartbeats 2000000 in
theorem walk (a0 : ByteArray) (w : World) (w0 : a0.size ≤ maxLen) :
    Calls Try.prog 5 #[.string a0] w fun e w' => e = .returned (.bool true) ∧ Below w.heap.size w w' := by
  unfold maxLen at w0
  by_cases hbig : 1048576 < a0.size
  · go_enter Try.func5, Try.ntmps5
    go_wp2
    go_ret
    exact ⟨rfl, Below.refl _ _⟩
  obtain ⟨r, v, hlen, CS, CI⟩ : ∃ (r : List (List UInt8)) (v : Bool), r.length ≤ 12 ∧ (∀ w, Calls Try.prog 12 #[.string a0] w (PartsOut w r v)) ∧ (∀ w, Calls Try.prog 13 #[.string a0] w (PartsOut w r v)) := by
    by_cases hs : a0.size ≤ 600
    · exact ⟨_, _, partsOf_len a0.data.toList, fun w => sPartsOf_1 a0 w hs _ _ rfl, fun w => iPartsOf_1 a0 w hs _ _ rfl⟩
    · exact ⟨[], false, by simp, fun w => sPartsOf_2 a0 w (by omega) (by omega), fun w => iPartsOf_2 a0 w (by omega) (by omega)⟩
  have KS := Lib.hid CS
  have KI := Lib.hid CI
  obtain ⟨n, hn⟩ : ∃ n, r.length = n := ⟨_, rfl⟩
  clear CS CI
  cases v
  all_goals
    go_enter Try.func5, Try.ntmps5
    go_wp2_with fail
    refine (KS.out _).mono ?_
    rintro e w1 ⟨A1, c1, rfl, O1, hb1⟩
    have R1 := Rd.of_own O1
    rw [hn] at R1 ⊢
    have HR1 := Lib.hid R1
    clear O1 R1
    go_wp2_with fail
    refine (KI.out _).mono ?_
    rintro e w2 ⟨A2, c2, rfl, O2, hb2⟩
    rw [hn] at O2 ⊢
    have HR2 := Lib.hid (HR1.out.below hb2)
    have B2 := hb1.trans (hb2.mono hb1.size)
    have HO2 := Lib.hid O2
    have B12 := hb2
    clear O2 hb2
    go_wp2_with fail
    refine (eqStringS_t A2 A1 n c2 c1 r _ (Rd.of_own HO2.out) HR2.out (by omega)).mono ?_
    rintro e w3 ⟨rfl, hb3⟩
    have HO3 := Lib.hid (own_kept HO2.out hb3)
    have B13 := B12.trans (hb3.mono B12.size)
    have B3 := B2.trans (hb3.mono B2.size)
    clear HO2 HR2 B2 B12 hb3
    go_wp2_with fail
    refine (markStringS_c A2 n c2 r 1 w1.heap.size _ HO3.out (by omega) (by omega) (by omega)).mono ?_
    rintro e w4 ⟨rfl, own4, hg4⟩
    have R1' := HR1.out.marked B13 HO3.out (Nat.le_refl _) hg4
    have B14 := below_grown B13 HO3.out (Nat.le_refl _) hg4
    have B4 := below_grown B3 HO3.out hb1.size hg4
    have HR4 := Lib.hid R1'
    have HO4 := Lib.hid own4
    clear R1' own4 hg4 HO3 B13 B3 HR1
    have hq : ((1 + n : Nat) : Int) = 1 + (n : Int) := by omega
    go_wp2_with fail
    refine (heldStringS_c A2 n c2 1 _ (Rd.of_own HO4.out) (by omega) (by omega) (by omega)).mono ?_
    rintro e w5 ⟨rfl, hb5⟩
    have HR5 := Lib.hid (HR4.out.below hb5)
    have HO5 := Lib.hid (own_kept HO4.out hb5)
    have B5 := B4.trans (hb5.mono B4.size)
    clear HR4 HO4 B4 B14 hb5
    go_wp2_with fail
    refine (KI.out _).mono ?_
    rintro e w6 ⟨A3, c3, rfl, O3, hb6⟩
    rw [hn] at O3 ⊢
    have HR6 := Lib.hid (HR5.out.below hb6)
    have HO6 := Lib.hid (own_kept HO5.out hb6)
    have B6 := B5.trans (hb6.mono B5.size)
    have HR7 := Lib.hid (Rd.of_own O3)
    clear HR5 HO5 B5 hb6 O3
    go_wp2_with fail
    refine (eqStringS_t A3 A1 n c3 c1 r _ HR7.out HR6.out (by omega)).mono ?_
    rintro e w7 ⟨rfl, hb7⟩
    have HO7 := Lib.hid (own_kept HO6.out hb7)
    have B7 := B6.trans (hb7.mono B6.size)
    clear HO6 B6 hb7 HR6 HR7
    go_wp2_with fail
    refine (heldStringS_c A2 n c2 1 _ (Rd.of_own HO7.out) (by omega) (by omega) (by omega)).mono ?_
    rintro e w8 ⟨rfl, hb8⟩
    have B8 := B7.trans (hb8.mono B7.size)
    clear HO7 B7 hb8
    go_wp2
    go_ret
    exact ⟨rfl, B8⟩

/-! ### The row's step -/
theorem own : ownKnob Try.prog.godebug = none := by kernel_rfl
theorem laidOut : laidOutB Try.prog = true := by kernel_rfl
set_option maxRecDepth 100000 in
theorem lifted (os : Os) (started : os.Started) (H : Type) (enc : TypeId × Value → H) :
    ReturnsInHanded {} Try.checked os 5 .any (Rows.fnExactPartsOfSpec.pre6 enc Try.prog Try.f5 Rows.fnExactPartsOfRow.domain false) (Rows.fnExactPartsOfSpec.post enc Try.prog Try.f5 false true false false) := by
  refine returnsInHanded_of_change (C := Try.checked) own started (by kernel_rfl) Try.func5
    (ChangeSpec.witness6 (enc := enc) (C := Try.checked) false ⟨#[], #[.string ByteArray.empty], []⟩ 8 (by kernel_rfl) (by kernel_rfl) (by kernel_rfl) (by kernel_rfl)) ?_
  intro W base args ds gs before hval0 hW hcnd _
  have hval : ∀ (j : Nat) t v, Try.f5.params[j]? = some t → args[j]? = some v → Value.okWide Try.prog W .any base t v := hval0
  have hW' := hW
  obtain ⟨p, q, hA0, hV, rfl, hfz, hnd⟩ := hW
  have hA : DataW.TrodAll enc Try.prog W 0 (fun _ => true) true Try.f5.params.toList args.toList ds p := hA0
  rw [Try.params5] at hA hval
  obtain ⟨v0, vs0, d0, ds0, p0, q0, hargs, rfl, rfl, h0, r0⟩ := trodAll_cons hA
  obtain ⟨rfl, rfl, rfl⟩ := trodAll_nil r0
  obtain rfl : args = #[v0] := by cases args; simp_all
  obtain ⟨rfl, rfl⟩ := trodVars_none hV
  have k0 := h0
  have lt0 : ∀ x ∈ p0, x.block < W.heap.size := by obtain ⟨m, hm⟩ := k0; exact DataW.trod_lt m _ _ _ hm
  obtain ⟨a0, rfl, rfl, rfl, w0⟩ := open_string Try.underlying9 (hval 0 9 v0 rfl rfl) h0
  clear hA0 hval0
  refine (walk a0 W w0).mono fun e W' ⟨he, bel⟩ => ?_
  subst he
  exact ⟨_, rfl, _, _, _, [], _, [], hW', trodAll_mk1 (shut_bool Try.underlying4 _), (trodAll_cons_mk (Below.trod laidOut (by kernel_rfl) (of_decide_eq_true (by kernel_rfl)) k0 bel lt0) trodAll_mk0), rfl, bel.frame _, fun h => by cases h⟩

theorem over : Rows.fnExactPartsOfRow.holds Try.pinned (OpenSpec.ofChange Rows.fnExactPartsOfSpec) :=
  OpenClaim.holds_of_wide 5 Try.f5 rfl rfl rfl rfl rfl rfl rfl ⟨rfl, rfl, rfl, rfl, rfl⟩ rfl rfl rfl rfl rfl (by kernel_rfl) Try.func5 (by kernel_rfl)
    (of_decide_eq_true (by kernel_rfl)) (by unfold Func.isWrapper; first | (rw [if_pos (by decide +kernel)]; kernel_rfl) | (rw [if_neg (by decide +kernel)]; exact ⟨rfl, rfl⟩))
    (fun os started H enc _ => lifted os started H enc)

/-- The statement. -/
theorem proved : Rows.FnExactPartsOfSaid := over
#print axioms proved
end Go.Proofs.Ythieianmlfejgaa.fnExactPartsOf
