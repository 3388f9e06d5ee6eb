/- The law FnRightsOrder returns true for every input: who has all that is needed has all of which that is a part. No condition. -/
import Derived.Test.YthieianmlfejgaaRows
import Derived.Test.YthieianmlfejgaaOpenB
import Derived.Test.YthieianmlfejgaaInt
import Derived.Test.YthieianmlfejgaaPure
import Derived.WalkKit
import Derived.ProofKit
import Derived.OpenShut
import Derived.ShutString
import Derived.ChangeOld
import Derived.Below
import Derived.Handy
import Derived.Carry
import Derived.Lib.SmallJoins
import Derived.WalkLawsBesides
import Derived.WalkSpells
import Derived.BigQuiet
import Derived.Deep.QuietTactic
import Derived.Outline
namespace Go.Proofs.Ythieianmlfejgaa.fnRightsOrder
open Go.ChangeShapes Go.WideShapes Go.ChangeAt Go.RowKit
open Go.ChangeMaps (open_string shut_string)
set_option linter.unusedVariables false
set_option linter.unusedSimpArgs false

theorem bothR_v {a b r : Int} (h : bothR a b = r) (w : World) : Calls Try.prog 20 #[.int .i64 a, .int .i64 b] w fun e w' => e = .returned (.int .i64 r) ∧ w = w' := by subst h; exact iBothRights_c a b w
theorem order (a b c : Int) (h : a = 0 ∨ a = 1 ∨ a = 2 ∨ a = 3) (h1 : b = 0 ∨ b = 1 ∨ b = 2 ∨ b = 3) (h2 : c = 0 ∨ c = 1 ∨ c = 2 ∨ c = 3) :
    (!enough a b || !enough b c || enough a c) = true ∧ enough a a = true ∧ enough a (bothR a b) = true ∧ bothR (bothR a b) c = bothR a (bothR b c) ∧ bothR 3 a = a := by
  rcases h with rfl | rfl | rfl | rfl <;> rcases h1 with rfl | rfl | rfl | rfl <;> rcases h2 with rfl | rfl | rfl | rfl <;> decide

set_option maxHeartbeats 2000000 in
theorem walk (a0 : Option Addr) (len0 cap0 : Nat) (l0 : Nat) (w : World) (h0 : Bytes w w.heap.size a0 len0 ∧ len0 ≤ maxLen) :
    Calls Try.prog 6 #[.slice a0 len0 cap0] w fun e w' => e = .returned (.bool true) ∧ Below w.heap.size w w' := by
  obtain ⟨hb, hm⟩ := h0
  by_cases hbig : 1048576 < len0
  · go_enter Try.func6, Try.ntmps6
    go_wp2_with fail
    refine (big_c _ _ _ _ hm).mono ?_
    rintro e w' ⟨rfl, rfl⟩
    rw [decide_eq_true hbig]
    go_wp2
    go_ret
    exact ⟨rfl, Below.refl _ _⟩
  have hle : len0 ≤ 1048576 := by omega
  have HB := Lib.hid hb
  clear hb
  go_enter Try.func6, Try.ntmps6
  go_wp2_with fail
  refine (big_c _ _ _ _ hm).mono ?_
  rintro e w' ⟨rfl, rfl⟩
  rw [decide_eq_false hbig]
  clear hbig hm
  go_wp2_with fail
  refine (DrawPlaces_c a0 len0 cap0 w HB.out hle).mono ?_
  rintro e w1 ⟨G, cc, l, rfl, hl, hr, hown, hbel⟩
  have R := Rd.of_own hown
  obtain ⟨b, o, z, rfl, hz, c0⟩ := R.int 0 (by omega)
  obtain ⟨b', o', z1, he1, hz1, c1⟩ := R.int 1 (by omega)
  obtain ⟨b'', o'', z2, he2, hz2, c2⟩ := R.int 2 (by omega)
  cases he1
  cases he2
  rw [Nat.add_zero] at c0
  obtain ⟨n0, _⟩ := hr _ (List.mem_of_getElem? hz)
  obtain ⟨n1, _⟩ := hr _ (List.mem_of_getElem? hz1)
  obtain ⟨n2, _⟩ := hr _ (List.mem_of_getElem? hz2)
  clear hown hr R hz hz1 hz2
  have f0 : ∀ x : Ext w1, x.w.cell? _ = _ := fun x => (x.cell (World.block_lt_of_cell? _ _ c0)).trans c0
  have f1 : ∀ x : Ext w1, x.w.cell? _ = _ := fun x => (x.cell (World.block_lt_of_cell? _ _ c1)).trans c1
  have f2 : ∀ x : Ext w1, x.w.cell? _ = _ := fun x => (x.cell (World.block_lt_of_cell? _ _ c2)).trans c2
  go_wp2_with fail
  refine wp_region_ext (by kernel_rfl) (by kernel_rfl) ?_
  repeat (go_big_quiet_step (fail))
  refine wpQuiet_nil ?_
  intro w2 hw'
  have hbel2 := hbel.trans ((Ext.out hw').mono hbel.size)
  clear hw' f0 f1 f2 c0 c1 c2 hbel
  have e0 : z % 4 = 0 ∨ z % 4 = 1 ∨ z % 4 = 2 ∨ z % 4 = 3 := by omega
  have e1 : z1 % 4 = 0 ∨ z1 % 4 = 1 ∨ z1 % 4 = 2 ∨ z1 % 4 = 3 := by omega
  have e2 : z2 % 4 = 0 ∨ z2 % 4 = 1 ∨ z2 % 4 = 2 ∨ z2 % 4 = 3 := by omega
  generalize z % 4 = a at e0 ⊢
  generalize z1 % 4 = b at e1 ⊢
  generalize z2 % 4 = c at e2 ⊢
  clear n0 n1 n2
  obtain ⟨L1, L2, L3, L4, L5⟩ := order a b c e0 e1 e2
  obtain ⟨x1, H1⟩ : ∃ x, Hid (enough a b = x) := ⟨_, Lib.hid rfl⟩
  obtain ⟨x2, H2⟩ : ∃ x, Hid (enough b c = x) := ⟨_, Lib.hid rfl⟩
  obtain ⟨x3, H3⟩ : ∃ x, Hid (enough a c = x) := ⟨_, Lib.hid rfl⟩
  have H4 := Lib.hid L2
  rw [H1.out, H2.out, H3.out] at L1
  obtain ⟨r1, B1⟩ : ∃ x, Hid (bothR a b = x) := ⟨_, Lib.hid rfl⟩
  obtain ⟨r2, B2⟩ : ∃ x, Hid (bothR b c = x) := ⟨_, Lib.hid rfl⟩
  rw [B1.out] at L3 L4
  rw [B2.out] at L4
  have H5 := Lib.hid L3
  obtain ⟨r3, B3⟩ : ∃ x, Hid (bothR a r2 = x) := ⟨_, Lib.hid rfl⟩
  have B4 := Lib.hid (L4.trans B3.out)
  have B5 := Lib.hid L5
  clear L2 L3 L4 L5 e0 e1 e2
  rcases x1 with _ | _ <;> rcases x2 with _ | _ <;> rcases x3 with _ | _
  all_goals first | (exfalso; revert L1; decide) | skip
  all_goals clear L1
  all_goals
    go_wp2_with (first | (go_at_call 19; first | ((with_reducible refine (iEnough_v H1.out _).mono ?_); rintro e w' ⟨rfl, rfl⟩) | ((with_reducible refine (iEnough_v H2.out _).mono ?_); rintro e w' ⟨rfl, rfl⟩) | ((with_reducible refine (iEnough_v H3.out _).mono ?_); rintro e w' ⟨rfl, rfl⟩) | ((with_reducible refine (iEnough_v H4.out _).mono ?_); rintro e w' ⟨rfl, rfl⟩) | ((with_reducible refine (iEnough_v H5.out _).mono ?_); rintro e w' ⟨rfl, rfl⟩)) | (go_at_call 20; first | ((with_reducible refine (bothR_v B1.out _).mono ?_); rintro e w' ⟨rfl, rfl⟩) | ((with_reducible refine (bothR_v B2.out _).mono ?_); rintro e w' ⟨rfl, rfl⟩) | ((with_reducible refine (bothR_v B3.out _).mono ?_); rintro e w' ⟨rfl, rfl⟩) | ((with_reducible refine (bothR_v B4.out _).mono ?_); rintro e w' ⟨rfl, rfl⟩) | ((with_reducible refine (bothR_v B5.out _).mono ?_); rintro e w' ⟨rfl, rfl⟩)))
    go_ret
    exact ⟨rfl, hbel2⟩

/-! ### The row's step -/
theorem own : ownKnob Try.prog.godebug = none := by kernel_rfl
theorem laidOut : laidOutB Try.prog = true := by kernel_rfl
set_option maxRecDepth 100000 in
theorem lifted (os : Os) (started : os.Started) (H : Type) (enc : TypeId × Value → H) :
    ReturnsInHanded {} Try.checked os 6 .any (Rows.fnRightsOrderSpec.pre6 enc Try.prog Try.f6 Rows.fnRightsOrderRow.domain false) (Rows.fnRightsOrderSpec.post enc Try.prog Try.f6 false true false false) := by
  refine returnsInHanded_of_change (C := Try.checked) own started (by kernel_rfl) Try.func6
    (ChangeSpec.witness6 (enc := enc) (C := Try.checked) false ⟨#[], #[.slice none 0 0], []⟩ 8 (by kernel_rfl) (by kernel_rfl) (by kernel_rfl) (by kernel_rfl)) ?_
  intro W base args ds gs before hval0 hW hcnd _
  have hval : ∀ (j : Nat) t v, Try.f6.params[j]? = some t → args[j]? = some v → Value.okWide Try.prog W .any base t v := hval0
  have hW' := hW
  obtain ⟨p, q, hA0, hV, rfl, hfz, hnd⟩ := hW
  have hA : DataW.TrodAll enc Try.prog W 0 (fun _ => true) true Try.f6.params.toList args.toList ds p := hA0
  rw [Try.params6] at hA hval
  obtain ⟨v0, vs0, d0, ds0, p0, q0, hargs, rfl, rfl, h0, r0⟩ := trodAll_cons hA
  obtain ⟨rfl, rfl, rfl⟩ := trodAll_nil r0
  obtain rfl : args = #[v0] := by cases args; simp_all
  obtain ⟨rfl, rfl⟩ := trodVars_none hV
  have k0 := h0
  have lt0 : ∀ x ∈ p0, x.block < W.heap.size := by obtain ⟨m, hm⟩ := k0; exact DataW.trod_lt m _ _ _ hm
  obtain ⟨a0, len0, cap0, rfl⟩ := okWide_slice Try.underlying30 (hval 0 30 v0 rfl rfl)
  obtain ⟨l0, w0⟩ := opn_bytes k0
  clear hA0 hval0
  refine (walk a0 len0 cap0 l0 W w0).mono fun e W' ⟨he, bel⟩ => ?_
  subst he
  exact ⟨_, rfl, _, _, _, [], _, [], hW', trodAll_mk1 (shut_bool Try.underlying4 _), (trodAll_cons_mk (Below.trod laidOut (by kernel_rfl) (of_decide_eq_true (by kernel_rfl)) k0 bel lt0) trodAll_mk0), rfl, bel.frame _, fun h => by cases h⟩

theorem over : Rows.fnRightsOrderRow.holds Try.pinned (OpenSpec.ofChange Rows.fnRightsOrderSpec) :=
  OpenClaim.holds_of_wide 6 Try.f6 rfl rfl rfl rfl rfl rfl rfl ⟨rfl, rfl, rfl, rfl, rfl⟩ rfl rfl rfl rfl rfl (by kernel_rfl) Try.func6 (by kernel_rfl)
    (of_decide_eq_true (by kernel_rfl)) (by unfold Func.isWrapper; first | (rw [if_pos (by decide +kernel)]; kernel_rfl) | (rw [if_neg (by decide +kernel)]; exact ⟨rfl, rfl⟩))
    (fun os started H enc _ => lifted os started H enc)

/-- The statement. -/
theorem proved : Rows.FnRightsOrderSaid := over
#print axioms proved
end Go.Proofs.Ythieianmlfejgaa.fnRightsOrder
