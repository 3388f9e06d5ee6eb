/- The law FnWriteCells returns true for every input: what was written into cells is read back, the last one of each. No condition. -/
import Derived.Test.YtjgphiialfhdlaaRows
import Derived.Test.YtjgphiialfhdlaaOpenB
import Derived.Test.YtjgphiialfhdlaaMemF6
import Derived.Test.YtjgphiialfhdlaaOpenM
import Derived.WalkKit
import Derived.ProofKit
import Derived.OpenShut
import Derived.ShutString
import Derived.ChangeOld
import Derived.Below
import Derived.Handy
import Derived.Carry
import Derived.Lib.SmallJoins
import Derived.WalkLawsBesides
import Derived.WalkSpells
import Derived.BigQuiet
import Derived.Deep.QuietTactic
import Derived.Outline
namespace Go.Proofs.Ytjgphiialfhdlaa.fnWriteCells
open Go.ChangeShapes Go.WideShapes Go.ChangeAt Go.RowKit
open Go.ChangeMaps (open_string shut_string)
set_option linter.unusedVariables false
set_option linter.unusedSimpArgs false

def rowsOf (l : List Int) : List (List Int) := [l.take 4, (l.drop 4).take 4, (l.drop 8).take 4]
theorem twelve {l : List Int} (h : l.length = 12) : ∃ x0 x1 x2 x3 x4 x5 x6 x7 x8 x9 x10 x11 : Int, l = [x0, x1, x2, x3, x4, x5, x6, x7, x8, x9, x10, x11] := by
  rcases l with _ | ⟨x0, _ | ⟨x1, _ | ⟨x2, _ | ⟨x3, _ | ⟨x4, _ | ⟨x5, _ | ⟨x6, _ | ⟨x7, _ | ⟨x8, _ | ⟨x9, _ | ⟨x10, _ | ⟨x11, l⟩⟩⟩⟩⟩⟩⟩⟩⟩⟩⟩⟩
  all_goals first | (exfalso; simp at h; done) | skip
  obtain rfl : l = [] := by simpa using h
  exact ⟨_, _, _, _, _, _, _, _, _, _, _, _, rfl⟩
theorem rows_new : memNew 3 = rowsOf (List.replicate 12 0) := by decide
theorem rows_set (l : List Int) (h : l.length = 12) (k : Nat) (hk : k < 12) (v : Int) (h0 : 0 ≤ v) (h1 : v ≤ 99) : withCell (rowsOf l) ((k : Int) / 4) ((k : Int) % 4) v = rowsOf (l.set k v) := by
  obtain ⟨x0, x1, x2, x3, x4, x5, x6, x7, x8, x9, x10, x11, rfl⟩ := twelve h
  have hv : inB v 0 99 = true := by simp [inB]; omega
  have hk' : k = 0 ∨ k = 1 ∨ k = 2 ∨ k = 3 ∨ k = 4 ∨ k = 5 ∨ k = 6 ∨ k = 7 ∨ k = 8 ∨ k = 9 ∨ k = 10 ∨ k = 11 := by omega
  rcases hk' with rfl | rfl | rfl | rfl | rfl | rfl | rfl | rfl | rfl | rfl | rfl | rfl <;> simp [withCell, hv, rowsOf, has2, hasB, rowAt]
theorem rows_at (l : List Int) (h : l.length = 12) (k : Nat) (hk : k < 12) : cellAt (rowsOf l) ((k : Int) / 4) ((k : Int) % 4) = l[k]'(by omega) := by
  obtain ⟨x0, x1, x2, x3, x4, x5, x6, x7, x8, x9, x10, x11, rfl⟩ := twelve h
  have hk' : k = 0 ∨ k = 1 ∨ k = 2 ∨ k = 3 ∨ k = 4 ∨ k = 5 ∨ k = 6 ∨ k = 7 ∨ k = 8 ∨ k = 9 ∨ k = 10 ∨ k = 11 := by omega
  rcases hk' with rfl | rfl | rfl | rfl | rfl | rfl | rfl | rfl | rfl | rfl | rfl | rfl <;> simp [cellAt, rowsOf, has2, hasB, rowAt]
theorem rows_ok (l : List Int) (h : l.length = 12) (hx : ∀ x ∈ l, 0 ≤ x ∧ x ≤ 99) : memOk (rowsOf l) 3 = true := by
  obtain ⟨x0, x1, x2, x3, x4, x5, x6, x7, x8, x9, x10, x11, rfl⟩ := twelve h
  simp at hx
  simp [memOk, rowsOf, pageOk, inB]
  omega
theorem rows_rows (l : List Int) : Rows (rowsOf l) := by
  intro i x hx
  have : x ∈ rowsOf l := List.mem_of_getElem? hx
  simp [rowsOf] at this
  rcases this with rfl | rfl | rfl <;> simp <;> omega
theorem hmk12 : ∀ w : World, (Instr.makeSlice 22 (.int .i64 12) (.int .i64 12)).run Try.prog w = .ok (.slice (some ⟨w.heap.size, 0, none⟩) 12 12) (w.alloc (.cells #[.int .i64 0, .int .i64 0, .int .i64 0, .int .i64 0, .int .i64 0, .int .i64 0, .int .i64 0, .int .i64 0, .int .i64 0, .int .i64 0, .int .i64 0, .int .i64 0] 3)) := fun _ => by kernel_rfl
theorem cellAt_v {L : List (List Int)} {p q v : Int} {A : Option Addr} {c : Nat} (h : cellAt L p q = v) (w : World) (u : Unit) (ha : Mx w A 3 L) (hr : Rows L) :
    Calls Try.prog 29 #[.slice A 3 c, .int .i64 p, .int .i64 q] w fun e w' => e = .returned (.int .i64 v) ∧ w = w' := by subst h; exact iCellAt_c p q A 3 c L w ha (by omega) hr
set_option maxHeartbeats 2000000 in
theorem walk (a0 : Option Addr) (len0 cap0 : Nat) (l0 : Nat) (w : World) (h0 : Bytes w w.heap.size a0 len0 ∧ len0 ≤ maxLen) :
    Calls Try.prog 11 #[.slice a0 len0 cap0] w fun e w' => e = .returned (.bool true) ∧ Below w.heap.size w w' := by
  obtain ⟨hb, hm⟩ := h0
  by_cases hbig : 1048576 < len0
  · go_enter Try.func11, Try.ntmps11
    go_wp2_with fail
    refine (big_c _ _ _ _ hm).mono ?_
    rintro e w' ⟨rfl, rfl⟩
    rw [decide_eq_true hbig]
    go_wp2
    go_ret
    exact ⟨rfl, Below.refl _ _⟩
  have hle : len0 ≤ 1048576 := by omega
  have HB := Lib.hid hb
  clear hb
  go_enter Try.func11, Try.ntmps11
  go_wp2_with fail
  refine (big_c _ _ _ _ hm).mono ?_
  rintro e w' ⟨rfl, rfl⟩
  rw [decide_eq_false hbig]
  clear hbig hm
  go_wp2_with fail
  refine (DrawPlaces_c a0 len0 cap0 w HB.out hle).mono ?_
  rintro e w1 ⟨G, cc, l, rfl, hl, hr, hown, hbel⟩
  have R := Rd.of_own hown
  go_wp2_with fail
  refine (iMemNew_c 3 _).mono ?_
  rintro e w2 ⟨A1, c1, vs1, rfl, O1, hb1⟩
  have hmk := hmk12
  have O2 := World.ownsRow_lit (base := w2.heap.size) (e := 3) (size := 1) w2 #[.int .i64 0, .int .i64 0, .int .i64 0, .int .i64 0, .int .i64 0, .int .i64 0, .int .i64 0, .int .i64 0, .int .i64 0, .int .i64 0, .int .i64 0, .int .i64 0] 12 (Nat.le_refl _) (by unfold maxLen; omega) (by simp)
  have O3 : (w2.alloc (.cells #[.int .i64 0, .int .i64 0, .int .i64 0, .int .i64 0, .int .i64 0, .int .i64 0, .int .i64 0, .int .i64 0, .int .i64 0, .int .i64 0, .int .i64 0, .int .i64 0] 3)).ownsRow w2.heap.size 3 1 (.slice (some ⟨w2.heap.size, 0, none⟩) 12 12) 12 (intCells (List.replicate 12 0)) := O2
  have hb2 : Below w2.heap.size w2 (w2.alloc (.cells #[.int .i64 0, .int .i64 0, .int .i64 0, .int .i64 0, .int .i64 0, .int .i64 0, .int .i64 0, .int .i64 0, .int .i64 0, .int .i64 0, .int .i64 0, .int .i64 0] 3)) := (Below.refl _ _).alloc (Nat.le_refl _) _
  rw [rows_new] at O1 ⊢
  have hl3 : ∀ x : List Int, (rowsOf x).length = 3 := fun _ => rfl
  rw [hl3] at O1 ⊢
  have hO1 : ∀ k, (Value.slice A1 3 c1).ownBlock = some k → k ≠ w2.heap.size := fun k hk => by have := (O1.row.lt k hk); omega
  have hO2 : ∀ k, inRows vs1 k → k ≠ w2.heap.size := fun k hk => by have := O1.inRows_lt hk; omega
  obtain ⟨b, o, rfl, hcell⟩ := R.2 (by omega)
  have hbg : b < w2.heap.size := by
    have := World.block_lt_of_cell? _ _ (hcell 0 _ (by simp [intCells, List.getElem?_eq_getElem (show 0 < l.length by omega)]; rfl))
    have := hb1.size
    dsimp only at *
    omega
  have R3 := (R.below hb1).below hb2
  have HB1 := hbel.trans (hb1.mono hbel.size)
  have hsz := HB1.size
  have HB2 := HB1.trans (hb2.mono HB1.size)
  have O4 := (O1.kept hb2).low (b := 0) (Nat.zero_le _)
  clear O1 O2 R hown hbel hb1 hb2 HB1
  have HR := Lib.hid hr
  clear hr
  have HC := Lib.hid R3
  clear hcell R3
  go_wp2
  generalize hw3 : w2.alloc (.cells #[.int .i64 0, .int .i64 0, .int .i64 0, .int .i64 0, .int .i64 0, .int .i64 0, .int .i64 0, .int .i64 0, .int .i64 0, .int .i64 0, .int .i64 0, .int .i64 0] 3) = w3 at *
  have hg3 : w2.heap.size < w3.heap.size := by subst hw3; simp
  clear hw3 hmk
  generalize w2.heap.size = g at hO1 hO2 O3 hg3 hsz hbg ⊢
  go_loopw [4, 6] (fun m i wr => ∃ (k : Nat) (A : Option Addr) (c : Nat) (vs : List Value) (W : List Int), k ≤ 6 ∧ i = .int .i64 k ∧ m = .slice A 3 c ∧ W.length = 12 ∧ Hid (∀ x ∈ W, 0 ≤ x ∧ x ≤ 99) ∧ OwnMx wr 0 A 3 c (rowsOf W) vs ∧ Hid (∀ k, (Value.slice A 3 c).ownBlock = some k → k ≠ g) ∧ Hid (∀ k, inRows vs k → k ≠ g) ∧ wr.ownsRow g 3 1 (.slice (some ⟨g, 0, none⟩) 12 12) 12 (intCells W) ∧ Hid (Rd wr 1 (some ⟨b, o, none⟩) 12 (intCells l)) ∧ g < wr.heap.size ∧ Below w.heap.size w wr) (fun _ i _ => 6 - (intOf i).toNat)
  case atStart => exact ⟨0, _, _, _, List.replicate 12 0, by omega, rfl, rfl, rfl, Lib.hid (by decide), O4, Lib.hid hO1, Lib.hid hO2, O3, HC, hg3, HB2⟩
  case round =>
    obtain ⟨k, A, c, vs, W, hk, rfl, rfl, hW, HW, O, N1, N2, OW, RP, hgs, hbl⟩ := hrel
    clear O3 O4 HC hO1 hO2
    by_cases hlt : k < 6
    · obtain ⟨_, _, z, he, hz, cz⟩ := RP.out.int k (by omega)
      obtain ⟨_, _, y, he2, hy, cy⟩ := RP.out.int (k + 1) (by omega)
      cases he
      cases he2
      have hz0 := HR.out _ (List.mem_of_getElem? hz)
      have hy0 := HR.out _ (List.mem_of_getElem? hy)
      obtain ⟨t, ht⟩ : ∃ t : Nat, z % 12 = t := Int.eq_ofNat_of_zero_le (by omega)
      have ht' : t < 12 := by omega
      obtain ⟨v, hv⟩ : ∃ v, y % 100 = v := ⟨_, rfl⟩
      have v0 : 0 ≤ v ∧ v ≤ 99 := by omega
      have hset := Lib.hid (rows_set W hW t ht' v v0.1 v0.2)
      go_wp2_with fail
      rw [ht, hv]
      refine (iWithCell_c _ _ _ A 3 c (rowsOf W) wr O.mx (by omega) (rows_rows _)).mono ?_
      rintro e w4 ⟨A', c', vs', rfl, O', hb4⟩
      rw [hset.out] at O'
      have h4 := hb4.size
      have N1' : Hid (∀ k, (Value.slice A' 3 c').ownBlock = some k → k ≠ g) := Lib.hid fun k hk => by have := O'.row.lt k hk; omega
      have N2' : Hid (∀ k, inRows vs' k → k ≠ g) := Lib.hid fun k hk => by have := O'.inRows_lt hk; omega
      have OW4 := own_kept OW hb4
      have RP4 := RP.out.below hb4
      have hbl4 := hbl.trans (hb4.mono hbl.size)
      obtain ⟨_, _, y', he3, hy', cy'⟩ := RP4.int (k + 1) (by omega)
      cases he3
      obtain rfl : y = y' := by rw [hy] at hy'; injection hy'
      obtain ⟨p', -, d0, zf⟩ := own_int_at OW4 t ht'
      have hS := own_int_set OW4 t v
      have GS := GrownS.of_grown (S := fun k => k = g) hS.2 (fun k hk => by injection hk with hk; exact hk.symm)
      have O5 := (O'.low (b := 0) (Nat.zero_le _)).keptS GS (fun k hk he => N1'.out k hk he) (fun k hk he => N2'.out k hk he)
      have RP5 : Rd (w4.setCell ⟨g, t, none⟩ (.int .i64 v)) 1 (some ⟨b, o, none⟩) 12 (intCells l) := ⟨RP4.1, fun h => by
        obtain ⟨b', o', e, hc⟩ := RP4.2 h
        cases e
        exact ⟨b, o, rfl, fun j u hu => (World.cell?_of_block (w := w4) (hS.2.block b (by omega) (by intro e; injection e with e; omega))).trans (hc j u hu)⟩⟩
      have hbl5 := below_S hbl4 GS (fun k hk => by subst hk; omega)
      have h5 := hS.2.size
      have HS := Lib.hid hS.1
      have H5 := Lib.hid RP5
      clear hset RP RP4 OW OW4 hS GS O O' hb4 N1 N2 hbl hbl4 cz cy
      go_wp2
      go_roundw
      case rel =>
        refine ⟨k + 1, A', c', vs', W.set t v, by omega, by go_num, rfl, by simp [hW], Lib.hid fun x hx => ?_, O5, N1', N2', HS.out, H5, by omega, hbl5⟩
        rcases List.mem_or_eq_of_mem_set hx with hx | rfl
        · exact HW.out x hx
        · exact v0
      case measure => simp [intOf]; omega
    · obtain rfl : k = 6 := by omega
      go_wp2
      clear RP HR N1 N2
      go_loopw [8] (fun i wl => ∃ k : Nat, k ≤ 12 ∧ i = .int .i64 k ∧ OwnMx wl 0 A 3 c (rowsOf W) vs ∧ wl.ownsRow g 3 1 (.slice (some ⟨g, 0, none⟩) 12 12) 12 (intCells W) ∧ Below w.heap.size w wl) (fun i _ => 12 - (intOf i).toNat)
      case atStart => exact ⟨0, by omega, rfl, O, OW, hbl⟩
      case round =>
        clear O OW hbl hgs
        obtain ⟨k, hk, rfl, O, OW, hbl⟩ := hrel
        by_cases hlt : k < 12
        · obtain ⟨p', hp, d0, zf⟩ := own_int_at OW k hlt
          have hat := rows_at W hW k hlt
          obtain rfl : p' = W[k] := by rw [List.getElem?_eq_getElem (by omega)] at hp; injection hp with hp; exact hp.symm
          clear hp
          generalize W[k] = x at d0 hat
          have HA := Lib.hid hat
          clear hat
          have f0 : ∀ x : Ext _, x.w.cell? _ = _ := fun x => (x.cell (World.block_lt_of_cell? _ _ d0)).trans d0
          have MX := O.mx
          go_wp2_with fail
          refine wp_region_ext (by kernel_rfl) (by kernel_rfl) ?_
          repeat (go_big_quiet_step ((go_at_call 29; exact Ext.same _ (cellAt_v HA.out _ () (MX.below (Ext.below _)) (rows_rows _)))))
          refine wpQuiet_nil ?_
          intro w5 hw'
          have hb5 := Ext.out hw'
          have O5 := O.kept hb5
          have OW5 := own_kept OW hb5
          have hbl5 := hbl.trans (hb5.mono hbl.size)
          clear hw' hb5 O OW hbl f0 MX d0
          go_wp2
          go_roundw
          case rel => exact ⟨k + 1, by omega, by go_num, O5, OW5, hbl5⟩
          case measure => simp [intOf]; omega
        · obtain rfl : k = 12 := by omega
          have hok := Lib.hid (rows_ok W hW HW.out)
          go_wp2_with fail
          refine (iMemOk_c A 3 c (rowsOf W) 3 _ O.mx (by omega) (rows_rows _)).mono ?_
          rintro e w' ⟨rfl, rfl⟩
          rw [hok.out]
          go_wp2
          go_ret
          exact ⟨rfl, hbl⟩

/-! ### The row's step -/
theorem own : ownKnob Try.prog.godebug = none := by kernel_rfl
theorem laidOut : laidOutB Try.prog = true := by kernel_rfl
set_option maxRecDepth 100000 in
theorem lifted (os : Os) (started : os.Started) (H : Type) (enc : TypeId × Value → H) :
    ReturnsInHanded {} Try.checked os 11 .any (Rows.fnWriteCellsSpec.pre6 enc Try.prog Try.f11 Rows.fnWriteCellsRow.domain false) (Rows.fnWriteCellsSpec.post enc Try.prog Try.f11 false true false false) := by
  refine returnsInHanded_of_change (C := Try.checked) own started (by kernel_rfl) Try.func11
    (ChangeSpec.witness6 (enc := enc) (C := Try.checked) false ⟨#[], #[.slice none 0 0], []⟩ 8 (by kernel_rfl) (by kernel_rfl) (by kernel_rfl) (by kernel_rfl)) ?_
  intro W base args ds gs before hval0 hW hcnd _
  have hval : ∀ (j : Nat) t v, Try.f11.params[j]? = some t → args[j]? = some v → Value.okWide Try.prog W .any base t v := hval0
  have hW' := hW
  obtain ⟨p, q, hA0, hV, rfl, hfz, hnd⟩ := hW
  have hA : DataW.TrodAll enc Try.prog W 0 (fun _ => true) true Try.f11.params.toList args.toList ds p := hA0
  rw [Try.params11] at hA hval
  obtain ⟨v0, vs0, d0, ds0, p0, q0, hargs, rfl, rfl, h0, r0⟩ := trodAll_cons hA
  obtain ⟨rfl, rfl, rfl⟩ := trodAll_nil r0
  obtain rfl : args = #[v0] := by cases args; simp_all
  obtain ⟨rfl, rfl⟩ := trodVars_none hV
  have k0 := h0
  have lt0 : ∀ x ∈ p0, x.block < W.heap.size := by obtain ⟨m, hm⟩ := k0; exact DataW.trod_lt m _ _ _ hm
  obtain ⟨a0, len0, cap0, rfl⟩ := okWide_slice Try.underlying41 (hval 0 41 v0 rfl rfl)
  obtain ⟨l0, w0⟩ := opn_bytes k0
  clear hA0 hval0
  refine (walk a0 len0 cap0 l0 W w0).mono fun e W' ⟨he, bel⟩ => ?_
  subst he
  exact ⟨_, rfl, _, _, _, [], _, [], hW', trodAll_mk1 (shut_bool Try.underlying4 _), (trodAll_cons_mk (Below.trod laidOut (by kernel_rfl) (of_decide_eq_true (by kernel_rfl)) k0 bel lt0) trodAll_mk0), rfl, bel.frame _, fun h => by cases h⟩

theorem over : Rows.fnWriteCellsRow.holds Try.pinned (OpenSpec.ofChange Rows.fnWriteCellsSpec) :=
  OpenClaim.holds_of_wide 11 Try.f11 rfl rfl rfl rfl rfl rfl rfl ⟨rfl, rfl, rfl, rfl, rfl⟩ rfl rfl rfl rfl rfl (by kernel_rfl) Try.func11 (by kernel_rfl)
    (of_decide_eq_true (by kernel_rfl)) (by unfold Func.isWrapper; first | (rw [if_pos (by decide +kernel)]; kernel_rfl) | (rw [if_neg (by decide +kernel)]; exact ⟨rfl, rfl⟩))
    (fun os started H enc _ => lifted os started H enc)

/-- The statement. -/
theorem proved : Rows.FnWriteCellsSaid := over
#print axioms proved
end Go.Proofs.Ytjgphiialfhdlaa.fnWriteCells
