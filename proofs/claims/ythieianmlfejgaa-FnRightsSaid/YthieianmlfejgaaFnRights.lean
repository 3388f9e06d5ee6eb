/- The law FnRights returns true for every input: BothRights is contained in both arguments; Enough, NeedOf, RightsText, RightsOk answer as the reference. No condition. -/
import Derived.Test.YthieianmlfejgaaRows
import Derived.Test.YthieianmlfejgaaOpenB
import Derived.Test.YthieianmlfejgaaDrawR
import Derived.Test.YthieianmlfejgaaInt
import Derived.Test.YthieianmlfejgaaPure
import Derived.WalkKit
import Derived.ProofKit
import Derived.OpenShut
import Derived.ShutString
import Derived.ChangeOld
import Derived.Below
import Derived.Handy
import Derived.Carry
import Derived.Lib.SmallJoins
import Derived.WalkLawsBesides
import Derived.WalkSpells
import Derived.BigQuiet
import Derived.Deep.QuietTactic
import Derived.Outline
namespace Go.Proofs.Ythieianmlfejgaa.fnRights
open Go.ChangeShapes Go.WideShapes Go.ChangeAt Go.RowKit
open Go.ChangeMaps (open_string shut_string)
set_option linter.unusedVariables false
set_option linter.unusedSimpArgs false

theorem bothR_none {a b : Int} (h : (rOk a && rOk b) = false) : bothR a b = 0 := by simp [bothR, h]
theorem bothR_comm (a b : Int) : bothR a b = bothR b a := by
  by_cases h : rOk a = true ∧ rOk b = true
  · obtain ⟨h1, h2⟩ := h
    rcases rOk_cases h1 with rfl | rfl | rfl | rfl <;> rcases rOk_cases h2 with rfl | rfl | rfl | rfl <;> decide
  · have h1 : (rOk a && rOk b) = false := by simpa using h
    have h2 : (rOk b && rOk a) = false := by rw [Bool.and_comm]; exact h1
    rw [bothR_none h1, bothR_none h2]
theorem both_enough (a b : Int) (h : bothR a b ≠ 0) : enough a (bothR a b) = true ∧ enough b (bothR a b) = true := by
  by_cases hh : rOk a = true ∧ rOk b = true
  · obtain ⟨h1, h2⟩ := hh
    rcases rOk_cases h1 with rfl | rfl | rfl | rfl <;> rcases rOk_cases h2 with rfl | rfl | rfl | rfl <;> decide
  · have h1 : (rOk a && rOk b) = false := by simpa using hh
    exact absurd (bothR_none h1) h

def rText (r : Int) : ByteArray := if r = 0 then ⟨#[45, 45]⟩ else if r = 1 then ⟨#[114, 45]⟩ else if r = 2 then ⟨#[45, 119]⟩ else if r = 3 then ⟨#[114, 119]⟩ else ⟨#[63]⟩
set_option maxHeartbeats 1000000 in
theorem iRightsText_c (a0 : Int) (w : World) : Calls Try.prog 29 #[.int .i64 a0] w fun e w' => e = .returned (.string (rText a0)) ∧ w = w' := by
  rcases (show (a0 < 0 ∨ 3 < a0) ∨ a0 = 0 ∨ a0 = 1 ∨ a0 = 2 ∨ a0 = 3 by omega) with h | rfl | rfl | rfl | rfl
  · have b0 : (a0 == 0) = false := by simp; omega
    have b1 : (a0 == 1) = false := by simp; omega
    have b2 : (a0 == 2) = false := by simp; omega
    have b3 : (a0 == 3) = false := by simp; omega
    have hr : rText a0 = ⟨#[63]⟩ := by simp at b0 b1 b2 b3; simp [rText, b0, b1, b2, b3]
    rw [hr]
    go_enter Try.func29, Try.ntmps29
    go_wp2
    go_ret
    exact ⟨rfl, rfl⟩
  all_goals
    go_enter Try.func29, Try.ntmps29
    go_wp2
    go_ret
    exact ⟨by first | rfl | simp [rText] | decide, rfl⟩
set_option maxHeartbeats 1000000 in
theorem sRightsText_c (a0 : Int) (w : World) : Calls Try.prog 30 #[.int .i64 a0] w fun e w' => e = .returned (.string (rText a0)) ∧ Below w.heap.size w w' := by
  rcases (show (a0 < 0 ∨ 3 < a0) ∨ a0 = 0 ∨ a0 = 1 ∨ a0 = 2 ∨ a0 = 3 by omega) with h | rfl | rfl | rfl | rfl
  · have h1 : rOk a0 = false := by cases hh : rOk a0; rfl; rw [rOk_iff] at hh; omega
    have hr : rText a0 = ⟨#[63]⟩ := by simp [rText, show a0 ≠ 0 by omega, show a0 ≠ 1 by omega, show a0 ≠ 2 by omega, show a0 ≠ 3 by omega]
    rw [hr]
    clear h hr
    go_enter Try.func30, Try.ntmps30
    go_wp2_with (go_at_call 32; refine (sRightsOk_v h1 _).mono ?_; rintro e w' ⟨rfl, rfl⟩)
    go_ret
    exact ⟨rfl, Below.refl _ _⟩
  all_goals
    go_enter Try.func30, Try.ntmps30
    go_wp2
    go_ret
    exact ⟨by first | rfl | simp [rText] | decide, by go_grown⟩
theorem iNeedOf_c (x : Bool) (w : World) : Calls Try.prog 27 #[.bool x] w fun e w' => e = .returned (.int .i64 (if x then 2 else 1)) ∧ w = w' := by
  cases x
  all_goals
    go_enter Try.func27, Try.ntmps27
    go_wp2
    go_ret
    exact ⟨rfl, rfl⟩
theorem sNeedOf_c (x : Bool) (w : World) : Calls Try.prog 28 #[.bool x] w fun e w' => e = .returned (.int .i64 (if x then 2 else 1)) ∧ w = w' := by
  cases x
  all_goals
    go_enter Try.func28, Try.ntmps28
    go_wp2
    go_ret
    exact ⟨rfl, rfl⟩
theorem iNeedOf_v {x : Bool} {n : Int} (h : (if x then 2 else 1 : Int) = n) (w : World) : Calls Try.prog 27 #[.bool x] w fun e w' => e = .returned (.int .i64 n) ∧ w = w' := h ▸ iNeedOf_c x w
theorem sNeedOf_v {x : Bool} {n : Int} (h : (if x then 2 else 1 : Int) = n) (w : World) : Calls Try.prog 28 #[.bool x] w fun e w' => e = .returned (.int .i64 n) ∧ w = w' := h ▸ sNeedOf_c x w
theorem iRightsText_v {t : Int} {s : ByteArray} (h : rText t = s) (w : World) : Calls Try.prog 29 #[.int .i64 t] w fun e w' => e = .returned (.string s) ∧ w = w' := h ▸ iRightsText_c t w
theorem sRightsText_v {t : Int} {s : ByteArray} (h : rText t = s) (w : World) : Calls Try.prog 30 #[.int .i64 t] w fun e w' => e = .returned (.string s) ∧ Below w.heap.size w w' := h ▸ sRightsText_c t w
theorem iBothRights_v {a b r : Int} (h : bothR a b = r) (w : World) : Calls Try.prog 20 #[.int .i64 a, .int .i64 b] w fun e w' => e = .returned (.int .i64 r) ∧ w = w' := h ▸ iBothRights_c a b w
theorem sBothRights_v {a b r : Int} (h : bothR a b = r) (w : World) : Calls Try.prog 25 #[.int .i64 a, .int .i64 b] w fun e w' => e = .returned (.int .i64 r) ∧ w = w' := h ▸ sBothRights_c a b w

set_option maxHeartbeats 2000000 in
theorem walk (a0 : Option Addr) (len0 cap0 : Nat) (l0 : Nat) (w : World) (h0 : Bytes w w.heap.size a0 len0 ∧ len0 ≤ maxLen) :
    Calls Try.prog 7 #[.slice a0 len0 cap0] w fun e w' => e = .returned (.bool true) ∧ Below w.heap.size w w' := by
  obtain ⟨hb, hm⟩ := h0
  by_cases hbig : 1048576 < len0
  · go_enter Try.func7, Try.ntmps7
    go_wp2_with fail
    refine (big_c _ _ _ _ hm).mono ?_
    rintro e w' ⟨rfl, rfl⟩
    rw [decide_eq_true hbig]
    go_wp2
    go_ret
    exact ⟨rfl, Below.refl _ _⟩
  have hle : len0 ≤ 1048576 := by omega
  have HB := Lib.hid hb
  clear hb
  go_enter Try.func7, Try.ntmps7
  go_wp2_with fail
  refine (big_c _ _ _ _ hm).mono ?_
  rintro e w' ⟨rfl, rfl⟩
  rw [decide_eq_false hbig]
  clear hbig hm
  go_wp2_with fail
  refine (DrawBothRights_c a0 len0 cap0 w HB.out hle).mono ?_
  rintro e w1 ⟨a, b, rfl, hb1⟩
  have HB1 : Hid (Bytes w1 w1.heap.size a0 len0) := Lib.hid (HB.out.grow hb1)
  obtain ⟨r, hr⟩ : ∃ r, bothR a b = r := ⟨_, rfl⟩
  have R1 := Lib.hid hr
  have R2 := Lib.hid ((bothR_comm b a).trans hr)
  have R3 := Lib.hid (fun h => hr ▸ both_enough a b (by rw [hr]; exact h) : r ≠ 0 → enough a r = true ∧ enough b r = true)
  clear hr
  go_wp2_with (go_at_call 20; refine (iBothRights_v R1.out _).mono ?_; rintro e w' ⟨rfl, rfl⟩)
  refine (DrawEnough_c a0 len0 cap0 w1 HB1.out hle).mono ?_
  rintro e w2 ⟨x, need, rfl, hb2⟩
  have HB2 : Hid (Bytes w2 w2.heap.size a0 len0) := Lib.hid (HB1.out.grow hb2)
  go_wp2_with fail
  refine (DrawNeedOf_c a0 len0 cap0 w2 HB2.out hle).mono ?_
  rintro e w3 ⟨wr, rfl, hb3⟩
  have HB3 : Hid (Bytes w3 w3.heap.size a0 len0) := Lib.hid (HB2.out.grow hb3)
  go_wp2_with fail
  refine (DrawRightsText_c a0 len0 cap0 w3 HB3.out hle).mono ?_
  rintro e w4 ⟨t, rfl, hb4⟩
  have hbel := ((hb1.trans (hb2.mono hb1.size)).trans (hb3.mono (Nat.le_trans hb1.size hb2.size))).trans (hb4.mono (Nat.le_trans hb1.size (Nat.le_trans hb2.size hb3.size)))
  have HW := Lib.hid hbel
  clear hb1 hb2 hb3 hb4 hbel HB HB1 HB2 HB3
  obtain ⟨x1, X1⟩ : ∃ y, Hid (enough x need = y) := ⟨_, Lib.hid rfl⟩
  obtain ⟨n1, N1⟩ : ∃ y, Hid ((if wr then 2 else 1 : Int) = y) := ⟨_, Lib.hid rfl⟩
  obtain ⟨s1, S1⟩ : ∃ y, Hid (rText t = y) := ⟨_, Lib.hid rfl⟩
  obtain ⟨o1, O1⟩ : ∃ y, Hid (rOk t = y) := ⟨_, Lib.hid rfl⟩
  have S3 : Hid (rText 3 = ⟨#[114, 119]⟩) := Lib.hid rfl
  have E3 : Hid (enough 3 2 = true) := Lib.hid (by decide)
  by_cases h0 : r = 0
  · subst h0
    go_wp2_with (first | (go_at_call 25; (with_reducible refine (sBothRights_v R1.out _).mono ?_); rintro e w' ⟨rfl, rfl⟩) | (go_at_call 20; (with_reducible refine (iBothRights_v R2.out _).mono ?_); rintro e w' ⟨rfl, rfl⟩) | (go_at_call 19; first | ((with_reducible refine (iEnough_v X1.out _).mono ?_); rintro e w' ⟨rfl, rfl⟩) | ((with_reducible refine (iEnough_v E3.out _).mono ?_); rintro e w' ⟨rfl, rfl⟩)) | (go_at_call 26; (with_reducible refine (sEnough_v X1.out _).mono ?_); rintro e w' ⟨rfl, rfl⟩) | (go_at_call 27; (with_reducible refine (iNeedOf_v N1.out _).mono ?_); rintro e w' ⟨rfl, rfl⟩) | (go_at_call 28; (with_reducible refine (sNeedOf_v N1.out _).mono ?_); rintro e w' ⟨rfl, rfl⟩) | (go_at_call 31; (with_reducible refine (iRightsOk_v O1.out _).mono ?_); rintro e w' ⟨rfl, rfl⟩) | (go_at_call 32; (with_reducible refine (sRightsOk_v O1.out _).mono ?_); rintro e w' ⟨rfl, rfl⟩) | (go_at_call 29; first | ((with_reducible refine (iRightsText_v S1.out _).mono ?_); rintro e w' ⟨rfl, rfl⟩) | ((with_reducible refine (iRightsText_v S3.out _).mono ?_); rintro e w' ⟨rfl, rfl⟩)) | (go_at_call 30; (with_reducible refine (sRightsText_v S1.out _).mono ?_); rintro e w5 ⟨rfl, hb5⟩))
    go_ret
    exact ⟨rfl, HW.out.trans (hb5.mono HW.out.size)⟩
  · have E1 := Lib.hid (R3.out h0).1
    have E2 := Lib.hid (R3.out h0).2
    have hz : (r == 0) = false := by simp [h0]
    go_wp2_with (first | (go_at_call 25; (with_reducible refine (sBothRights_v R1.out _).mono ?_); rintro e w' ⟨rfl, rfl⟩) | (go_at_call 20; (with_reducible refine (iBothRights_v R2.out _).mono ?_); rintro e w' ⟨rfl, rfl⟩) | (go_at_call 19; first | ((with_reducible refine (iEnough_v X1.out _).mono ?_); rintro e w' ⟨rfl, rfl⟩) | ((with_reducible refine (iEnough_v E1.out _).mono ?_); rintro e w' ⟨rfl, rfl⟩) | ((with_reducible refine (iEnough_v E2.out _).mono ?_); rintro e w' ⟨rfl, rfl⟩) | ((with_reducible refine (iEnough_v E3.out _).mono ?_); rintro e w' ⟨rfl, rfl⟩)) | (go_at_call 26; (with_reducible refine (sEnough_v X1.out _).mono ?_); rintro e w' ⟨rfl, rfl⟩) | (go_at_call 27; (with_reducible refine (iNeedOf_v N1.out _).mono ?_); rintro e w' ⟨rfl, rfl⟩) | (go_at_call 28; (with_reducible refine (sNeedOf_v N1.out _).mono ?_); rintro e w' ⟨rfl, rfl⟩) | (go_at_call 31; (with_reducible refine (iRightsOk_v O1.out _).mono ?_); rintro e w' ⟨rfl, rfl⟩) | (go_at_call 32; (with_reducible refine (sRightsOk_v O1.out _).mono ?_); rintro e w' ⟨rfl, rfl⟩) | (go_at_call 29; first | ((with_reducible refine (iRightsText_v S1.out _).mono ?_); rintro e w' ⟨rfl, rfl⟩) | ((with_reducible refine (iRightsText_v S3.out _).mono ?_); rintro e w' ⟨rfl, rfl⟩)) | (go_at_call 30; (with_reducible refine (sRightsText_v S1.out _).mono ?_); rintro e w5 ⟨rfl, hb5⟩))
    go_ret
    exact ⟨rfl, HW.out.trans (hb5.mono HW.out.size)⟩

/-! ### The row's step -/
theorem own : ownKnob Try.prog.godebug = none := by kernel_rfl
theorem laidOut : laidOutB Try.prog = true := by kernel_rfl
set_option maxRecDepth 100000 in
theorem lifted (os : Os) (started : os.Started) (H : Type) (enc : TypeId × Value → H) :
    ReturnsInHanded {} Try.checked os 7 .any (Rows.fnRightsSpec.pre6 enc Try.prog Try.f7 Rows.fnRightsRow.domain false) (Rows.fnRightsSpec.post enc Try.prog Try.f7 false true false false) := by
  refine returnsInHanded_of_change (C := Try.checked) own started (by kernel_rfl) Try.func7
    (ChangeSpec.witness6 (enc := enc) (C := Try.checked) false ⟨#[], #[.slice none 0 0], []⟩ 8 (by kernel_rfl) (by kernel_rfl) (by kernel_rfl) (by kernel_rfl)) ?_
  intro W base args ds gs before hval0 hW hcnd _
  have hval : ∀ (j : Nat) t v, Try.f7.params[j]? = some t → args[j]? = some v → Value.okWide Try.prog W .any base t v := hval0
  have hW' := hW
  obtain ⟨p, q, hA0, hV, rfl, hfz, hnd⟩ := hW
  have hA : DataW.TrodAll enc Try.prog W 0 (fun _ => true) true Try.f7.params.toList args.toList ds p := hA0
  rw [Try.params7] at hA hval
  obtain ⟨v0, vs0, d0, ds0, p0, q0, hargs, rfl, rfl, h0, r0⟩ := trodAll_cons hA
  obtain ⟨rfl, rfl, rfl⟩ := trodAll_nil r0
  obtain rfl : args = #[v0] := by cases args; simp_all
  obtain ⟨rfl, rfl⟩ := trodVars_none hV
  have k0 := h0
  have lt0 : ∀ x ∈ p0, x.block < W.heap.size := by obtain ⟨m, hm⟩ := k0; exact DataW.trod_lt m _ _ _ hm
  obtain ⟨a0, len0, cap0, rfl⟩ := okWide_slice Try.underlying30 (hval 0 30 v0 rfl rfl)
  obtain ⟨l0, w0⟩ := opn_bytes k0
  clear hA0 hval0
  refine (walk a0 len0 cap0 l0 W w0).mono fun e W' ⟨he, bel⟩ => ?_
  subst he
  exact ⟨_, rfl, _, _, _, [], _, [], hW', trodAll_mk1 (shut_bool Try.underlying4 _), (trodAll_cons_mk (Below.trod laidOut (by kernel_rfl) (of_decide_eq_true (by kernel_rfl)) k0 bel lt0) trodAll_mk0), rfl, bel.frame _, fun h => by cases h⟩

theorem over : Rows.fnRightsRow.holds Try.pinned (OpenSpec.ofChange Rows.fnRightsSpec) :=
  OpenClaim.holds_of_wide 7 Try.f7 rfl rfl rfl rfl rfl rfl rfl ⟨rfl, rfl, rfl, rfl, rfl⟩ rfl rfl rfl rfl rfl (by kernel_rfl) Try.func7 (by kernel_rfl)
    (of_decide_eq_true (by kernel_rfl)) (by unfold Func.isWrapper; first | (rw [if_pos (by decide +kernel)]; kernel_rfl) | (rw [if_neg (by decide +kernel)]; exact ⟨rfl, rfl⟩))
    (fun os started H enc _ => lifted os started H enc)

/-- The statement. -/
theorem proved : Rows.FnRightsSaid := over
#print axioms proved
end Go.Proofs.Ythieianmlfejgaa.fnRights
