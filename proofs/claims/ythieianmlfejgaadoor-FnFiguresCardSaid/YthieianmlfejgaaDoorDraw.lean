/- The generator's cursor: what its steps give is bounded, whatever the bytes are. Condition: the code holds at most 1048576 bytes. -/
import Derived.Test.YthieianmlfejgaaDoorMem
import Derived.Test.YthieianmlfejgaaDoorApp
import Derived.Test.YthieianmlfejgaaDoorIntL
import Derived.Test.YthieianmlfejgaaDoorQuiet
import Derived.Test.YthieianmlfejgaaDoorChecked
import Derived.WalkKit
import Derived.ProofKit
import Derived.Handy
import Derived.WalkLawsBesides
import Derived.Outline
namespace Go.Proofs.YthieianmlfejgaaDoor
open Go.RowKit
set_option linter.unusedVariables false
set_option maxHeartbeats 1000000
set_option maxRecDepth 20000

theorem and255 (x : Int) : 0 ≤ bits BinOp.and IntKind.i64 x 255 ∧ bits BinOp.and IntKind.i64 x 255 ≤ 255 := by
  have h : (BitVec.ofInt IntKind.i64.bits x &&& BitVec.ofInt IntKind.i64.bits 255).toNat ≤ 255 := by
    rw [BitVec.toNat_and]
    exact Nat.le_trans Nat.and_le_right (by decide)
  unfold bits
  simp only
  generalize (BitVec.ofInt IntKind.i64.bits x &&& BitVec.ofInt IntKind.i64.bits 255).toNat = t at h
  rw [IntWalk.i64_in _ (by omega)]
  omega
/-- The bytes that a slice reads, below block g. -/
def Bytes (w : World) (g : Nat) (A : Option Addr) (n : Nat) : Prop := 0 < n → ∃ b o, A = some ⟨b, o, none⟩ ∧ b < g ∧ ∀ j, j < n → ∃ x : Int, 0 ≤ x ∧ x ≤ 255 ∧ w.cell? ⟨b, o + j, none⟩ = some (.int .u8 x)
theorem Bytes.keep {w w' : World} {g : Nat} {A : Option Addr} {n : Nat} (h : Bytes w g A n) (hk : ∀ k, k < g → w'.heap[k]? = w.heap[k]?) : Bytes w' g A n := fun hn => by
  obtain ⟨b, o, e, hb, hc⟩ := h hn
  refine ⟨b, o, e, hb, fun j hj => ?_⟩
  obtain ⟨x, x0, x1, hx⟩ := hc j hj
  exact ⟨x, x0, x1, (World.cell?_of_block (w := w) (hk b hb)).trans hx⟩
theorem Bytes.grow {w w' : World} {A : Option Addr} {n : Nat} (h : Bytes w w.heap.size A n) (hb : Below w.heap.size w w') : Bytes w' w'.heap.size A n := fun hn => by
  obtain ⟨b, o, e, hbg, hc⟩ := (h.keep fun k hk => hb.block k hk) hn
  exact ⟨b, o, e, Nat.lt_of_lt_of_le hbg hb.size, hc⟩
/-- A cursor in block g. -/
def Cur (w : World) (S g : Nat) : Prop :=
  ∃ (A : Option Addr) (n c : Nat) (i h : Int), w.heap[g]? = some (.cells #[.slice A n c, .int .i64 i, .int .i64 h] 47 (0, 0)) ∧ 0 ≤ i ∧ i ≤ n ∧ n ≤ 1048576 ∧ S ≤ g ∧ Bytes w S A n
theorem Cur.lt {w : World} {S g : Nat} (h : Cur w S g) : g < w.heap.size := by
  obtain ⟨A, n, c, i, h, hb, _⟩ := h
  rcases Nat.lt_or_ge g w.heap.size with hlt | hge
  · exact hlt
  · rw [Array.getElem?_eq_none hge] at hb; cases hb
theorem Cur.below {w w' : World} {S g : Nat} (h : Cur w S g) (hb : Below w.heap.size w w') : Cur w' S g := by
  have hlt := h.lt
  obtain ⟨A, n, c, i, h, hbk, h0, h1, h2, hs, h3⟩ := h
  exact ⟨A, n, c, i, h, (hb.block g hlt).trans hbk, h0, h1, h2, hs, h3.keep fun k hk => hb.block k (by omega)⟩
/-- What is owned and holds other elements than a cursor is apart from it. -/
theorem own_cur {w w' : World} {S g base size n : Nat} {e : TypeId} {v : Value} {xs : List Value} (h : w.ownsRow base e size v n xs) (hc : Cur w S g) (he : e ≠ 47) (hg : w.grownBy w' (some g)) : w'.ownsRow base e size v n xs :=
  h.kept hg (by
    rcases h.2 with ⟨rfl, _⟩ | ⟨g', cap, cur, rfl, _, hh, _⟩
    · exact .inl rfl
    · refine .inr fun hk => ?_
      simp only [Value.ownBlock, Option.some.injEq] at hk
      subst hk
      obtain ⟨A, n, c, i, h, hb, _⟩ := hc
      rw [hh] at hb
      injection hb with hb
      injection hb with _ ht
      exact he ht)
theorem Cur.own {w w' : World} {S g base size n : Nat} {e : TypeId} {v : Value} {xs : List Value} (hc : Cur w S g) (h : w.ownsRow base e size v n xs) (he : e ≠ 47) (hb : S ≤ base) (hg : w.grownBy w' v.ownBlock) : Cur w' S g := by
  have hlt := hc.lt
  rcases h.2 with ⟨rfl, _⟩ | ⟨g', cap, cur, rfl, hbg, hh, _⟩
  · obtain ⟨A, n, c, i, h, hbk, h0, h1, h2, hs, h3⟩ := hc
    exact ⟨A, n, c, i, h, (hg.block g hlt (by intro e; cases e)).trans hbk, h0, h1, h2, hs, h3.keep fun k hk => hg.block k (by omega) (by intro e; cases e)⟩
  · obtain ⟨A, n, c, i, h, hbk, h0, h1, h2, hs, h3⟩ := hc
    have hne : g' ≠ g := by
      rintro rfl
      rw [hh] at hbk
      injection hbk with hbk
      injection hbk with _ ht
      exact he ht
    exact ⟨A, n, c, i, h, (hg.block g hlt (by intro e; simp only [Value.ownBlock, Option.some.injEq] at e; exact hne e.symm)).trans hbk, h0, h1, h2, hs, h3.keep fun k hk => hg.block k (by omega) (by intro e; simp only [Value.ownBlock, Option.some.injEq] at e; omega)⟩
theorem grown_own {W w w' : World} {g base size n : Nat} {e : TypeId} {v : Value} {xs : List Value} (h : W.grownBy w (some g)) (ho : w.ownsRow base e size v n xs) (hb : W.heap.size ≤ base) (hg : w.grownBy w' v.ownBlock) : W.grownBy w' (some g) :=
  ⟨hg.os.trans h.os, hg.tape.trans h.tape, hg.output.trans h.output, Nat.le_trans h.size hg.size, fun k hk hne => (hg.block k (Nat.lt_of_lt_of_le hk h.size) (fun e => by have := (ho.lt k e.symm); omega)).trans (h.block k hk hne)⟩
theorem grown_alloc {W w : World} {g : Nat} (h : W.grownBy w (some g)) (X : Obj) : W.grownBy (w.alloc X) (some g) :=
  ⟨h.os, h.tape, h.output, by have := h.size; simp; omega, fun k hk hne => (((Below.refl w.heap.size w).alloc (Nat.le_refl _) X).block k (Nat.lt_of_lt_of_le hk h.size)).trans (h.block k hk hne)⟩
theorem below_cur {W w w' : World} {g : Nat} (hb : Below W.heap.size W w) (h : w.grownBy w' (some g)) (hg : W.heap.size ≤ g) : Below W.heap.size W w' := hb.grown h hb.size (fun k e => by cases e; exact hg)
def ByteOut (w : World) (S g : Nat) (e : Ending) (w' : World) : Prop := ∃ x : Int, e = .returned (.int .i64 x) ∧ 0 ≤ x ∧ x ≤ 255 ∧ Cur w' S g ∧ w.grownBy w' (some g)
theorem l01Byte_c (S g : Nat) (w : World) (hc : Cur w S g) : Calls Tryd.prog 25 #[.pointer (some ⟨g, 0, none⟩)] w (ByteOut w S g) := by
  obtain ⟨A, n, c, i, h, hb, h0, h1, h2, hs, h3⟩ := hc
  have c0 : w.cell? ⟨g, 0, none⟩ = some (.slice A n c) := cell_of_row w g 0 _ _ (0, 0) hb
  have c1 : w.cell? ⟨g, 1, none⟩ = some (.int .i64 i) := cell_of_row w g 1 _ _ (0, 0) hb
  have c2 : w.cell? ⟨g, 2, none⟩ = some (.int .i64 h) := cell_of_row w g 2 _ _ (0, 0) hb
  have z1 : w.frozen? ⟨g, 1, none⟩ = false := by simp [World.frozen?, hb]
  have z2 : w.frozen? ⟨g, 2, none⟩ = false := by simp [World.frozen?, hb]
  have HB := Lib.hid hb
  have H3 := Lib.hid h3
  clear hb h3
  have hgt : g < w.heap.size := World.block_lt_of_cell? w _ c0
  obtain ⟨h1', hh⟩ : ∃ q : Int, q = wrap64 (wrap64 (h * 6364136223846793005) + 1442695040888963407) := ⟨_, rfl⟩
  have g1 : w.grownBy (w.setCell ⟨g, 2, none⟩ (.int .i64 h1')) (some g) := ⟨rfl, rfl, rfl, by simp, fun k _ hk => heap_setCell_other w ⟨g, 2, none⟩ k _ (fun e => hk (by simp [e]))⟩
  have B1 : Hid ((w.setCell ⟨g, 2, none⟩ (.int .i64 h1')).heap[g]? = some (.cells #[.slice A n c, .int .i64 i, .int .i64 h1'] 47 (0, 0))) := heap_setCell_same w g 2 _ _ _ HB.out
  have Y1 : Hid (Bytes (w.setCell ⟨g, 2, none⟩ (.int .i64 h1')) S A n) := H3.out.keep fun k hk => g1.block k (by omega) (fun e => by injection e with e; omega)
  go_enter Tryd.func25, Tryd.ntmps25
  go_wp2
  rw [← hh]
  generalize w.setCell ⟨g, 2, none⟩ (.int .i64 h1') = w1 at g1 B1 Y1 ⊢
  clear hh c0 c1 c2 z1 z2 HB H3
  have d0 : w1.cell? ⟨g, 0, none⟩ = some (.slice A n c) := cell_of_row w1 g 0 _ _ (0, 0) B1.out
  have d1 : w1.cell? ⟨g, 1, none⟩ = some (.int .i64 i) := cell_of_row w1 g 1 _ _ (0, 0) B1.out
  have d2 : w1.cell? ⟨g, 2, none⟩ = some (.int .i64 h1') := cell_of_row w1 g 2 _ _ (0, 0) B1.out
  have f2 : ∀ x : Ext w1, x.w.cell? _ = _ := fun x => (x.cell (World.block_lt_of_cell? _ _ d2)).trans d2
  refine wp_region_ext (by kernel_rfl) (by kernel_rfl) ?_
  repeat (go_big_quiet_step (fail))
  refine wpQuiet_nil ?_
  intro w2 hw'
  have hb2 := Ext.out hw'
  have B2 : Hid (w2.heap[g]? = some (.cells #[.slice A n c, .int .i64 i, .int .i64 h1'] 47 (0, 0))) := (hb2.block g (World.block_lt_of_cell? _ _ d0)).trans B1.out
  have Y2 : Hid (Bytes w2 S A n) := Y1.out.keep fun k hk => hb2.block k (by have := World.block_lt_of_cell? _ _ d0; dsimp only at this; omega)
  have g2 : w.grownBy w2 (some g) := ⟨hb2.os.trans g1.os, hb2.tape.trans g1.tape, hb2.output.trans g1.output, Nat.le_trans g1.size hb2.size, fun k hk hne => (hb2.block k (Nat.lt_of_lt_of_le hk g1.size)).trans (g1.block k hk hne)⟩
  clear hw' hb2 f2 d0 d1 d2 g1 B1 Y1
  have d0 : w2.cell? ⟨g, 0, none⟩ = some (.slice A n c) := cell_of_row w2 g 0 _ _ (0, 0) B2.out
  have d1 : w2.cell? ⟨g, 1, none⟩ = some (.int .i64 i) := cell_of_row w2 g 1 _ _ (0, 0) B2.out
  have z1 : w2.frozen? ⟨g, 1, none⟩ = false := by simp [World.frozen?, B2.out]
  obtain ⟨xv, hxv⟩ : ∃ q : Int, q = bits BinOp.and IntKind.i64 (bits BinOp.xor IntKind.i64 (h1' / 8589934592) (h1' / 35184372088832)) 255 := ⟨_, rfl⟩
  have hx0 := and255 (bits BinOp.xor IntKind.i64 (h1' / 8589934592) (h1' / 35184372088832))
  rw [← hxv] at hx0
  obtain ⟨hx0, hx1⟩ := hx0
  by_cases hlt : i < n
  · go_wp2
    rw [← hxv]
    clear hxv
    have f0 : ∀ x : Ext w2, x.w.cell? _ = _ := fun x => (x.cell (World.block_lt_of_cell? _ _ d0)).trans d0
    have f1 : ∀ x : Ext w2, x.w.cell? _ = _ := fun x => (x.cell (World.block_lt_of_cell? _ _ d1)).trans d1
    refine wp_region_ext (by kernel_rfl) (by kernel_rfl) ?_
    repeat (go_big_quiet_step (fail))
    refine wpQuiet_nil ?_
    intro w3 hw'
    have hbx := Ext.out hw'
    clear hw' f0 f1
    have B3 : Hid (w3.heap[g]? = some (.cells #[.slice A n c, .int .i64 i, .int .i64 h1'] 47 (0, 0))) := (hbx.block g (World.block_lt_of_cell? _ _ d0)).trans B2.out
    have Y3 : Hid (Bytes w3 S A n) := Y2.out.keep fun k hk => hbx.block k (by have := World.block_lt_of_cell? _ _ d0; dsimp only at this; omega)
    have g3 := grown_trans g2 (⟨hbx.os, hbx.tape, hbx.output, hbx.size, fun k hk _ => hbx.block k hk⟩ : w2.grownBy w3 (some g))
    clear hbx d0 d1 z1 g2 B2 Y2
    obtain ⟨k, rfl⟩ := Int.eq_ofNat_of_zero_le h0
    obtain ⟨b, o, rfl, hbg, hbytes⟩ := Y3.out (by omega)
    obtain ⟨y, y0, y1, cy⟩ := hbytes k (by omega)
    have hkn : k < n := by omega
    have d0 : w3.cell? ⟨g, 0, none⟩ = some (.slice (some ⟨b, o, none⟩) n c) := cell_of_row w3 g 0 _ _ (0, 0) B3.out
    have d1 : w3.cell? ⟨g, 1, none⟩ = some (.int .i64 k) := cell_of_row w3 g 1 _ _ (0, 0) B3.out
    clear hbytes
    go_wp2
    have f0 : ∀ x : Ext w3, x.w.cell? _ = _ := fun x => (x.cell (World.block_lt_of_cell? _ _ d0)).trans d0
    have f1 : ∀ x : Ext w3, x.w.cell? _ = _ := fun x => (x.cell (World.block_lt_of_cell? _ _ d1)).trans d1
    have fy : ∀ x : Ext w3, x.w.cell? _ = _ := fun x => (x.cell (World.block_lt_of_cell? _ _ cy)).trans cy
    refine wp_region_ext (by kernel_rfl) (by kernel_rfl) ?_
    repeat (go_big_quiet_step (fail))
    refine wpQuiet_nil ?_
    intro w4 hw'
    have hbx := Ext.out hw'
    clear hw' f0 f1 fy
    have B4 : Hid (w4.heap[g]? = some (.cells #[.slice (some ⟨b, o, none⟩) n c, .int .i64 k, .int .i64 h1'] 47 (0, 0))) := (hbx.block g (World.block_lt_of_cell? _ _ d0)).trans B3.out
    have Y4 : Hid (Bytes w4 S (some ⟨b, o, none⟩) n) := Y3.out.keep fun k hk => hbx.block k (by have := World.block_lt_of_cell? _ _ d0; dsimp only at this; omega)
    have g4 := grown_trans g3 (⟨hbx.os, hbx.tape, hbx.output, hbx.size, fun k hk _ => hbx.block k hk⟩ : w3.grownBy w4 (some g))
    clear hbx d0 d1 g3 B3 Y3 cy
    obtain ⟨hz0, hz1⟩ := and255 (xv + y)
    generalize bits BinOp.and IntKind.i64 (xv + y) 255 = zv at hz0 hz1 ⊢
    have d1 : w4.cell? ⟨g, 1, none⟩ = some (.int .i64 k) := cell_of_row w4 g 1 _ _ (0, 0) B4.out
    have z1 : w4.frozen? ⟨g, 1, none⟩ = false := by simp [World.frozen?, B4.out]
    have g5 := grown_trans g4 (⟨rfl, rfl, rfl, by simp, fun j _ hj => heap_setCell_other w4 ⟨g, 1, none⟩ j _ (fun e => hj (by simp [e]))⟩ : w4.grownBy (w4.setCell ⟨g, 1, none⟩ (.int .i64 (k + 1))) (some g))
    have B5 : Hid ((w4.setCell ⟨g, 1, none⟩ (.int .i64 (k + 1))).heap[g]? = some (.cells #[.slice (some ⟨b, o, none⟩) n c, .int .i64 (k + 1), .int .i64 h1'] 47 (0, 0))) := heap_setCell_same w4 g 1 _ _ _ B4.out
    have Y5 : Hid (Bytes (w4.setCell ⟨g, 1, none⟩ (.int .i64 (k + 1))) S (some ⟨b, o, none⟩) n) := Y4.out.keep fun j hj => heap_setCell_other w4 ⟨g, 1, none⟩ j _ (fun e => by simp at e; omega)
    go_wp2
    generalize w4.setCell ⟨g, 1, none⟩ (.int .i64 (k + 1)) = w5 at g5 B5 Y5 ⊢
    go_ret
    exact ⟨zv, rfl, hz0, hz1, ⟨_, n, c, k + 1, h1', B5.out, by omega, by omega, h2, hs, Y5.out⟩, g5⟩
  · go_wp2
    rw [← hxv]
    clear hxv
    have f0 : ∀ x : Ext w2, x.w.cell? _ = _ := fun x => (x.cell (World.block_lt_of_cell? _ _ d0)).trans d0
    have f1 : ∀ x : Ext w2, x.w.cell? _ = _ := fun x => (x.cell (World.block_lt_of_cell? _ _ d1)).trans d1
    refine wp_region_ext (by kernel_rfl) (by kernel_rfl) ?_
    repeat (go_big_quiet_step (fail))
    refine wpQuiet_nil ?_
    intro w3 hw'
    have hbx := Ext.out hw'
    clear hw' f0 f1
    have B3 : Hid (w3.heap[g]? = some (.cells #[.slice A n c, .int .i64 i, .int .i64 h1'] 47 (0, 0))) := (hbx.block g (World.block_lt_of_cell? _ _ d0)).trans B2.out
    have Y3 : Hid (Bytes w3 S A n) := Y2.out.keep fun k hk => hbx.block k (by have := World.block_lt_of_cell? _ _ d0; dsimp only at this; omega)
    have g3 := grown_trans g2 (⟨hbx.os, hbx.tape, hbx.output, hbx.size, fun k hk _ => hbx.block k hk⟩ : w2.grownBy w3 (some g))
    clear hbx
    go_wp2
    go_ret
    exact ⟨xv, rfl, hx0, hx1, ⟨A, n, c, i, h1', B3.out, h0, h1, h2, hs, Y3.out⟩, g3⟩
def NumOut (w : World) (S g : Nat) (lo hi : Int) (e : Ending) (w' : World) : Prop := ∃ x : Int, e = .returned (.int .i64 x) ∧ lo ≤ x ∧ x ≤ hi ∧ Cur w' S g ∧ w.grownBy w' (some g)
theorem emod_in (x n : Int) (hn : 0 < n) : 0 ≤ x % n ∧ x % n < n := ⟨Int.emod_nonneg _ (by omega), Int.emod_lt_of_pos _ hn⟩
theorem l01Below_c (S g : Nat) (n : Int) (w : World) (hc : Cur w S g) (hn : n ≤ 9223372036854775807) : Calls Tryd.prog 20 #[.pointer (some ⟨g, 0, none⟩), .int .i64 n] w (NumOut w S g 0 (if 0 < n then n - 1 else 0)) := by
  go_enter Tryd.func20, Tryd.ntmps20
  by_cases h0 : n ≤ 0
  · rw [if_neg (by omega)]
    go_wp2
    go_ret
    exact ⟨0, rfl, by omega, by omega, hc, World.grownBy.refl _ _⟩
  · rw [if_pos (by omega)]
    by_cases h1 : n ≤ 256
    · go_wp2_with fail
      refine (l01Byte_c _ _ _ hc).mono ?_
      rintro e w1 ⟨x, rfl, x0, x1, hc1, g1⟩
      obtain ⟨m0, m1⟩ := emod_in x n (by omega)
      go_wp2
      go_ret
      exact ⟨_, rfl, m0, by omega, hc1, g1⟩
    · go_wp2_with fail
      refine (l01Byte_c _ _ _ hc).mono ?_
      rintro e w1 ⟨x, rfl, x0, x1, hc1, g1⟩
      go_wp2_with fail
      refine (l01Byte_c _ _ _ hc1).mono ?_
      rintro e w2 ⟨y, rfl, y0, y1, hc2, g2⟩
      go_wp2_with fail
      refine (l01Byte_c _ _ _ hc2).mono ?_
      rintro e w3 ⟨z, rfl, z0, z1, hc3, g3⟩
      go_wp2_with fail
      refine (l01Byte_c _ _ _ hc3).mono ?_
      rintro e w4 ⟨t, rfl, t0, t1, hc4, g4⟩
      obtain ⟨m0, m1⟩ := emod_in (x * 16777216 + y * 65536 + z * 256 + t) n (by omega)
      go_wp2
      go_ret
      exact ⟨_, rfl, m0, by omega, hc4, grown_trans (grown_trans (grown_trans g1 g2) g3) g4⟩
def NewOut (w : World) (e : Ending) (w' : World) : Prop := ∃ g : Nat, e = .returned (.pointer (some ⟨g, 0, none⟩)) ∧ w.heap.size ≤ g ∧ Cur w' w.heap.size g ∧ Below w.heap.size w w'
set_option maxRecDepth 20000 in
theorem l01New_c (A : Option Addr) (n c : Nat) (w : World) (hb : Bytes w w.heap.size A n) (hn : n ≤ 1048576) : Calls Tryd.prog 19 #[.slice A n c] w (NewOut w) := by
  have HB := Lib.hid hb
  clear hb
  go_enter Tryd.func19, Tryd.ntmps19
  go_wp2
  go_loopw [3, 4] (fun h i wr => ∃ (k : Nat) (x : Int), k ≤ n ∧ h = .int .i64 x ∧ i = .int .i64 k ∧ Below w.heap.size w wr) (fun _ i _ => n - (intOf i).toNat)
  case atStart => exact ⟨0, _, by omega, rfl, rfl, Below.refl _ _⟩
  case round =>
    obtain ⟨k, x, hk, rfl, rfl, hbel⟩ := hrel
    have Y1 : Hid (Bytes wr w.heap.size A n) := HB.out.keep fun k hk => hbel.block k hk
    have hend : Bytes (wr.alloc (.cells #[.slice A n c, .int .i64 0, .int .i64 x] 47 (0, 0))) w.heap.size A n := fun hn => by
      have hsz := hbel.size
      obtain ⟨b, o, e, hbw, hc⟩ := Y1.out hn
      refine ⟨b, o, e, by omega, fun j hj => ?_⟩
      obtain ⟨y, y0, y1, hy⟩ := hc j hj
      exact ⟨y, y0, y1, (cel_alloc wr _ (World.block_lt_of_cell? _ _ hy)).trans hy⟩
    by_cases hlt : k < n ∧ k < 4000
    · obtain ⟨b, o, rfl, hbg, hbytes⟩ := Y1.out (by omega)
      obtain ⟨y, y0, y1, cy⟩ := hbytes k (by omega)
      clear hbytes hend
      have hk0 : k < n := hlt.1
      have hk1 : k < 4000 := hlt.2
      clear hlt
      go_wp2
      go_roundw
      case rel => exact ⟨k + 1, _, by omega, rfl, by go_num, hbel⟩
      case measure => simp [intOf]; omega
    · have hdone : Cur (wr.alloc (.cells #[.slice A n c, .int .i64 0, .int .i64 x] 47 (0, 0))) w.heap.size wr.heap.size := ⟨A, n, c, 0, x, by first | exact Array.getElem?_push_size | (simp; done), by omega, by omega, hn, hbel.size, hend⟩
      have hb2 : Below w.heap.size w (wr.alloc (.cells #[.slice A n c, .int .i64 0, .int .i64 x] 47 (0, 0))) := hbel.alloc hbel.size _
      have HD := Lib.hid hdone
      clear hdone hend
      by_cases hk0 : k < n
      · have hk1 : ¬ k < 4000 := fun h => hlt ⟨hk0, h⟩
        clear hlt
        go_wp2
        go_ret
        exact ⟨wr.heap.size, rfl, hbel.size, HD.out, hb2⟩
      · clear hlt
        go_wp2
        go_ret
        exact ⟨wr.heap.size, rfl, hbel.size, HD.out, hb2⟩
def PlacesOut (w : World) (e : Ending) (w' : World) : Prop := ∃ (G : Option Addr) (cc : Nat) (l : List Int), e = .returned (.slice G 12 cc) ∧ l.length = 12 ∧ (∀ x ∈ l, 0 ≤ x ∧ x ≤ 9999) ∧ w'.ownsRow w.heap.size 3 1 (.slice G 12 cc) 12 (intCells l) ∧ Below w.heap.size w w'
theorem below_step' {W w w' : World} {g : Nat} (hb : Below W.heap.size W w) (h : w.grownBy w' (some g)) (hg : W.heap.size ≤ g) : Below W.heap.size W w' := hb.grown h hb.size (fun k e => by cases e; exact hg)
theorem DrawPlaces_c (A : Option Addr) (n c : Nat) (w : World) (hb : Bytes w w.heap.size A n) (hn : n ≤ 1048576) : Calls Tryd.prog 11 #[.slice A n c] w (PlacesOut w) := by
  obtain ⟨i0, hi, hz0, hz1, hz2⟩ := info_parts info_int'
  go_enter Tryd.func11, Tryd.ntmps11
  go_wp2_with fail
  refine (l01New_c A n c w hb hn).mono ?_
  rintro e w1 ⟨g, rfl, hg, hc, hbel⟩
  have hlit := World.ownsRow_lit (base := w1.heap.size) (e := 3) (size := 1) w1 #[] 0 (Nat.le_refl _) (by unfold maxLen; omega) (by simp)
  go_wp2
  have hbel1 : Below w.heap.size w (w1.alloc (.cells #[] 3)) := hbel.alloc hbel.size _
  have hc1 : Cur (w1.alloc (.cells #[] 3)) w.heap.size g := hc.below ((Below.refl _ _).alloc (Nat.le_refl _) _)
  have HC := Lib.hid hc1
  have HG := Lib.hid hg
  have HL := Lib.hid (own_base hlit hbel.size)
  clear hc hc1 hbel hlit
  go_loopw [4, 5] (fun v i wr => ∃ (k : Nat) (G : Option Addr) (cc : Nat) (l : List Int), k ≤ 12 ∧ i = .int .i64 k ∧ v = .slice G k cc ∧ l.length = k ∧ (∀ x ∈ l, 0 ≤ x ∧ x ≤ 9999) ∧ wr.ownsRow w.heap.size 3 1 (.slice G k cc) k (intCells l) ∧ Cur wr w.heap.size g ∧ Below w.heap.size w wr) (fun _ i _ => 12 - (intOf i).toNat)
  case atStart => exact ⟨0, _, _, [], by omega, rfl, rfl, rfl, by simp, HL.out, HC.out, hbel1⟩
  case round =>
    obtain ⟨k, G, cc, l, hk, rfl, rfl, hll, hlr, hown, hcur, hbl⟩ := hrel
    have HR := Lib.hid hlr
    clear hlr
    by_cases hlt : k < 12
    · go_wp2_with fail
      refine (l01Below_c _ g 10000 wr hcur (by omega)).mono ?_
      rintro e w2 ⟨x, rfl, x0, x1, hc2, g2⟩
      have hown2 := own_cur hown hcur (by decide) g2
      have hbl2 := below_step' hbl g2 HG.out
      clear hown hbl hcur g2
      rw [if_pos (by omega)] at x1
      go_wp2_with (at_builtin; refine wpList_append_own _ rfl _ _ 29 rfl w.heap.size 3 i0 (.int .i64 0) 1 8 Tryd.underlying29 hi hz0 hz1 hz2 rfl (by decide) (.slice G k cc) k (intCells l) rfl (hown2.alloc _) ⟨w2.heap.size, 0, none⟩ 1 1 [.int .i64 x] rfl rfl (new_one w2 #[.int .i64 x] _) ?c2 ?c3 ?c4 ?c5 ?_)
      case c2 => first | rfl | (intro u hu; simp at hu; subst hu; rfl)
      case c3 => unfold maxLen; omega
      case c4 => omega
      case c5 => have := hbl2.size; simp; omega
      intro v' w3 hown3 hgr3 _
      have hbl3 := below_grown (hbl2.alloc hbl2.size _) (hown2.alloc _) (Nat.le_refl _) hgr3
      have hc3 := (hc2.below ((Below.refl _ _).alloc (Nat.le_refl _) (.cells #[.int .i64 x] 3))).own (hown2.alloc _) (by decide) (Nat.le_refl _) hgr3
      obtain ⟨G', cc', rfl⟩ := own_shape hown3
      go_wp2
      go_roundw
      case rel =>
        refine ⟨k + 1, G', cc', l ++ [x], by omega, by go_num, rfl, by simp [hll], ?_, by simpa [intCells] using hown3, hc3, hbl3⟩
        intro z hz
        rcases List.mem_append.mp hz with hz | hz
        · exact HR.out z hz
        · simp at hz; omega
      case measure => simp [intOf]; omega
    · obtain rfl : k = 12 := by omega
      go_wp2
      go_ret
      exact ⟨G, cc, l, rfl, hll, HR.out, hown, hbl⟩
end Go.Proofs.YthieianmlfejgaaDoor
