/- The law FnExactKeptNew returns true for every input: the program's KeptNew answers as the reference's. No condition. -/
import Derived.Test.YtlfnhfipnjgifaaRows
import Derived.Test.YtlfnhfipnjgifaaKeptN
import Derived.WalkKit
import Derived.ProofKit
import Derived.OpenShut
import Derived.ShutString
import Derived.ChangeOld
import Derived.Below
import Derived.Handy
import Derived.Carry
import Derived.Lib.SmallJoins
import Derived.WalkLawsBesides
import Derived.WalkSpells
namespace Go.Proofs.Ytlfnhfipnjgifaa.fnExactKeptNew
open Go.ChangeShapes Go.WideShapes Go.ChangeAt Go.RowKit
open Go.ChangeMaps (open_string shut_string)
set_option linter.unusedVariables false
set_option linter.unusedSimpArgs false

set_option maxHeartbeats 4000000 in
theorem walk (a0 : Int) (w : World) (w0 : (Lit.int .i64 a0).wf = true) :
    Calls Try.prog 4 #[.int .i64 a0] w fun e w' => e = .returned (.bool true) ∧ Below w.heap.size w w' := by
  clear w0
  obtain ⟨k, hk, hk24⟩ := brought24 a0
  have HK := Lib.hid hk
  clear hk
  go_enter Try.func4, Try.ntmps4
  go_wp2_with fail
  refine (sKeptNew_k HK.out hk24 _).mono ?_
  rintro e w1 ⟨A_W, c_W, B_W, d_W, rfl, o1, o2, hb1⟩
  -- w0 is laid in a box
  have X := KBox.new w1 29 (.slice A_W k c_W) (.slice B_W k d_W)
  have hx := (Below.refl w1.heap.size w1).alloc (Nat.le_refl _) (.cells #[.slice A_W k c_W, .slice B_W k d_W] 29)
  have Bg := hb1.trans (hx.mono hb1.size)
  have WA := Lib.hid ((Rd.of_own o1).below hx)
  have WB := Lib.hid ((Rd.of_own o2).below hx)
  have XW := Lib.hid X
  clear o1 o2 hb1 X
  go_wp2_with fail
  generalize hwg : w1.alloc (.cells #[.slice A_W k c_W, .slice B_W k d_W] 29) = wg at hx Bg WA WB XW ⊢
  have hsg : w1.heap.size < wg.heap.size := XW.out.lt
  clear hwg hx
  refine (iKeptNew_k HK.out hk24 _).mono ?_
  rintro e w2 ⟨A_G, c_G, B_G, d_G, rfl, g1, g2, C2⟩
  have hs2 := C2.size
  have la := g1.lt
  have lb := g2.lt
  have Y := KBox.new w2 29 (.slice A_G k c_G) (.slice B_G k d_G)
  have hy := (Below.refl w2.heap.size w2).alloc (Nat.le_refl _) (.cells #[.slice A_G k c_G, .slice B_G k d_G] 29)
  have C3 := C2.trans (hy.mono C2.size)
  have G1 := own_kept g1 hy
  have G2 := own_kept g2 hy
  have YG := Lib.hid Y
  have x0 := (XW.out.below C3).c0
  have x1 := (XW.out.below C3).c1
  have y0 := Y.c0
  have y1 := Y.c1
  clear Y g1 g2 C2
  -- eqKept(g0, w0)
  go_wp2_with fail
  generalize hwh : w2.alloc (.cells #[.slice A_G k c_G, .slice B_G k d_G] 29) = wh at *
  have hsh : w2.heap.size < wh.heap.size := YG.out.lt
  clear hwh hy x0 x1 y0 y1
  refine (eqKept_t A_G B_G A_W B_W k k c_G d_G c_W d_W _ _ _ (Rd.of_own G1) (Rd.of_own G2) (WA.out.below C3) (WB.out.below C3) (by omega) (by omega)).mono ?_
  rintro e w3 ⟨rfl, hb3⟩
  have s3 := hb3.size
  have C4 := C3.trans (hb3.mono C3.size)
  have G3 := own_kept G1 hb3
  have G4 := own_kept G2 hb3
  have Y3 := YG.out.below hb3
  have YH := Lib.hid Y3
  have y0 := Y3.c0
  have y1 := Y3.c1
  clear hb3 C3 G1 G2 Y3 YG
  -- markKept(g0, 1)
  go_wp2_with fail
  refine (markKept_c A_G B_G k k c_G d_G wg.heap.size _ _ _ G3 G4 (by omega) (by omega) (by omega)).mono ?_
  rintro e w4 ⟨rfl, M1, M2, hb4, fr⟩
  have C5 := C4.trans hb4
  have Y4 : KBox w4 w2.heap.size 29 (.slice A_G k c_G) (.slice B_G k d_G) := (fr _ (by omega) (fun e => by have := la _ e; omega) (fun e => by have := lb _ e; omega)).trans YH.out
  have YI := Lib.hid Y4
  have s5 := C5.size
  have y0' := Y4.c0
  have y1' := Y4.c1
  have hs4 : w2.heap.size < w4.heap.size := Y4.lt
  have RM1 := Lib.hid (Rd.of_own M1)
  have RM2 := Lib.hid (Rd.of_own M2)
  clear C4 hb4 fr G3 G4 YH Y4 y0 y1 M1 M2 la lb
  -- heldKept(g0, 1)
  go_wp2_with fail
  refine (heldKept_c A_G B_G k k c_G d_G _ RM1.out RM2.out (by omega) (by omega)).mono ?_
  rintro e w5 ⟨rfl, hb5⟩
  have C6 := C5.trans (hb5.mono C5.size)
  have Y5 := Lib.hid (YI.out.below hb5)
  have R51 := Lib.hid (RM1.out.below hb5)
  have R52 := Lib.hid (RM2.out.below hb5)
  clear hb5 C5 YI RM1 RM2 y0' y1'
  go_wp2_with fail
  -- h0 := KeptNew
  refine (iKeptNew_k HK.out hk24 _).mono ?_
  rintro e w6 ⟨A_H, c_H, B_H, d_H, rfl, h1, h2, hb6⟩
  have C7 := C6.trans (hb6.mono C6.size)
  have Y6 := Y5.out.below hb6
  have R61 := R51.out.below hb6
  have R62 := R52.out.below hb6
  have Z := KBox.new w6 29 (.slice A_H k c_H) (.slice B_H k d_H)
  have hz := (Below.refl w6.heap.size w6).alloc (Nat.le_refl _) (.cells #[.slice A_H k c_H, .slice B_H k d_H] 29)
  have C8 := C7.trans (hz.mono C7.size)
  have Y7 := Lib.hid (Y6.below hz)
  have R71 := Lib.hid (R61.below hz)
  have R72 := Lib.hid (R62.below hz)
  have H1 := Lib.hid ((Rd.of_own h1).below hz)
  have H2 := Lib.hid ((Rd.of_own h2).below hz)
  have x0 := (XW.out.below C8).c0
  have x1 := (XW.out.below C8).c1
  have z0 := Z.c0
  have z1 := Z.c1
  clear C6 C7 Y5 Y6 R51 R52 R61 R62 h1 h2 hb6 Z hz
  go_wp2_with fail
  refine (eqKept_t A_H B_H A_W B_W k k c_H d_H c_W d_W _ _ _ H1.out H2.out (WA.out.below C8) (WB.out.below C8) (by omega) (by omega)).mono ?_
  rintro e w7 ⟨rfl, hb7⟩
  have C9 := C8.trans (hb7.mono C8.size)
  have Y8 := Y7.out.below hb7
  have R81 := R71.out.below hb7
  have R82 := R72.out.below hb7
  have y0 := Y8.c0
  have y1 := Y8.c1
  clear Y8 Y7 R71 R72 H1 H2 x0 x1 z0 z1 hb7 C8
  go_wp2_with fail
  refine (heldKept_c A_G B_G k k c_G d_G _ R81 R82 (by omega) (by omega)).mono ?_
  rintro e w8 ⟨rfl, hb8⟩
  have C10 := C9.trans (hb8.mono C9.size)
  go_wp2
  go_ret
  exact ⟨rfl, Bg.trans (C10.mono Bg.size)⟩

/-! ### The row's step -/
theorem own : ownKnob Try.prog.godebug = none := by kernel_rfl
theorem laidOut : laidOutB Try.prog = true := by kernel_rfl
set_option maxRecDepth 100000 in
theorem lifted (os : Os) (started : os.Started) (H : Type) (enc : TypeId × Value → H) :
    ReturnsInHanded {} Try.checked os 4 .any (Rows.fnExactKeptNewSpec.pre6 enc Try.prog Try.f4 Rows.fnExactKeptNewRow.domain false) (Rows.fnExactKeptNewSpec.post enc Try.prog Try.f4 false true false false) := by
  refine returnsInHanded_of_change (C := Try.checked) own started (by kernel_rfl) Try.func4
    (ChangeSpec.witness6 (enc := enc) (C := Try.checked) false ⟨#[], #[.int .i64 0], []⟩ 8 (by kernel_rfl) (by kernel_rfl) (by kernel_rfl) (by kernel_rfl)) ?_
  intro W base args ds gs before hval0 hW hcnd _
  have hval : ∀ (j : Nat) t v, Try.f4.params[j]? = some t → args[j]? = some v → Value.okWide Try.prog W .any base t v := hval0
  have hW' := hW
  obtain ⟨p, q, hA0, hV, rfl, hfz, hnd⟩ := hW
  have hA : DataW.TrodAll enc Try.prog W 0 (fun _ => true) true Try.f4.params.toList args.toList ds p := hA0
  rw [Try.params4] at hA hval
  obtain ⟨v0, vs0, d0, ds0, p0, q0, hargs, rfl, rfl, h0, r0⟩ := trodAll_cons hA
  obtain ⟨rfl, rfl, rfl⟩ := trodAll_nil r0
  obtain rfl : args = #[v0] := by cases args; simp_all
  obtain ⟨rfl, rfl⟩ := trodVars_none hV
  have k0 := h0
  have lt0 : ∀ x ∈ p0, x.block < W.heap.size := by obtain ⟨m, hm⟩ := k0; exact DataW.trod_lt m _ _ _ hm
  obtain ⟨a0, rfl, rfl, rfl, w0⟩ := open_int Try.underlying3 (hval 0 3 v0 rfl rfl) h0
  clear hA0 hval0
  refine (walk a0 W w0).mono fun e W' ⟨he, bel⟩ => ?_
  subst he
  exact ⟨_, rfl, _, _, _, [], _, [], hW', trodAll_mk1 (shut_bool Try.underlying4 _), (trodAll_cons_mk (Below.trod laidOut (by kernel_rfl) (of_decide_eq_true (by kernel_rfl)) k0 bel lt0) trodAll_mk0), rfl, bel.frame _, fun h => by cases h⟩

theorem over : Rows.fnExactKeptNewRow.holds Try.pinned (OpenSpec.ofChange Rows.fnExactKeptNewSpec) :=
  OpenClaim.holds_of_wide 4 Try.f4 rfl rfl rfl rfl rfl rfl rfl ⟨rfl, rfl, rfl, rfl, rfl⟩ rfl rfl rfl rfl rfl (by kernel_rfl) Try.func4 (by kernel_rfl)
    (of_decide_eq_true (by kernel_rfl)) (by unfold Func.isWrapper; first | (rw [if_pos (by decide +kernel)]; kernel_rfl) | (rw [if_neg (by decide +kernel)]; exact ⟨rfl, rfl⟩))
    (fun os started H enc _ => lifted os started H enc)

/-- The statement. -/
theorem proved : Rows.FnExactKeptNewSaid := over
#print axioms proved
end Go.Proofs.Ytlfnhfipnjgifaa.fnExactKeptNew
