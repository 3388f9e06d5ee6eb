/- Drawn slots and tables: some slots, at most as many as are asked. Condition: the code holds at most 1048576 bytes. -/
import Derived.Test.YtlfnhfipnjgifaaDrawR
import Derived.Test.YtlfnhfipnjgifaaSlot
namespace Go.Proofs.Ytlfnhfipnjgifaa
open Go.RowKit
set_option linter.unusedVariables false
set_option maxHeartbeats 1000000
set_option maxRecDepth 20000

theorem Rd.cur {w w' : World} {size n g : Nat} {A : Option Addr} {xs : List Value} (h : Rd w size A n xs) (hg : w.grownBy w' (some g)) (hne : ∀ p, A = some p → p.block ≠ g) : Rd w' size A n xs :=
  ⟨h.1, fun hn => by
    obtain ⟨b, o, e, hc⟩ := h.2 hn
    exact ⟨b, o, e, fun j u hu => (World.cell?_of_block (w := w) (hg.block b (World.block_lt_of_cell? w _ (hc j u hu)) (by intro e'; injection e' with e'; exact hne _ e e'))).trans (hc j u hu)⟩⟩
theorem own_cap {w : World} {base size n g c : Nat} {e : TypeId} {xs : List Value} (h : w.ownsRow base e size (.slice (some ⟨g, 0, none⟩) n c) n xs) : n ≤ c ∧ c ≤ maxLen := by
  rcases h.2 with ⟨hv, _⟩ | ⟨g', cap, cur, hv, _, _, h1, h2, _⟩
  · cases hv
  · injection hv with _ _ hc
    subst hc
    exact ⟨h1, h2⟩
theorem info_SlotD : (Try.prog.info? 41).map (fun i => (i.zero, i.size, i.bytes)) = some (some (.agg #[.int .i64 0, .int .i64 0]), 2, 16) := by kernel_rfl
/-- A block of two numbers (a slot in a box). -/
def Box (w : World) (b : Nat) (x y : Int) : Prop := w.heap[b]? = some (.cells #[.int .i64 x, .int .i64 y] 41 (0, 0))
theorem Box.lt {w : World} {b : Nat} {x y : Int} (h : Box w b x y) : b < w.heap.size := by
  rcases Nat.lt_or_ge b w.heap.size with hlt | hge
  · exact hlt
  · unfold Box at h; rw [Array.getElem?_eq_none hge] at h; cases h
theorem Box.new (w : World) (x y : Int) : Box (w.alloc (.cells #[.int .i64 x, .int .i64 y] 41)) w.heap.size x y := by
  first | exact Array.getElem?_push_size | (simp [Box]; done)
theorem Box.grown {w w' : World} {b g : Nat} {x y : Int} (h : Box w b x y) (hg : w.grownBy w' (some g)) (hne : b ≠ g) : Box w' b x y :=
  (hg.block b h.lt (by intro e; injection e with e; exact hne e)).trans h
theorem Box.below {w w' : World} {b : Nat} {x y : Int} (h : Box w b x y) (hb : Below w.heap.size w w') : Box w' b x y := (hb.block b h.lt).trans h
theorem Box.set0 {w : World} {b : Nat} {x y : Int} (h : Box w b x y) (p : Int) : Box (w.setCell ⟨b, 0, none⟩ (.int .i64 p)) b p y := heap_setCell_same w b 0 _ _ _ h
theorem Box.set1 {w : World} {b : Nat} {x y : Int} (h : Box w b x y) (p : Int) : Box (w.setCell ⟨b, 1, none⟩ (.int .i64 p)) b x p := heap_setCell_same w b 1 _ _ _ h
theorem Box.c0 {w : World} {b : Nat} {x y : Int} (h : Box w b x y) : w.cell? ⟨b, 0, none⟩ = some (.int .i64 x) := cell_of_row w b 0 _ _ (0, 0) h
theorem Box.c1 {w : World} {b : Nat} {x y : Int} (h : Box w b x y) : w.cell? ⟨b, 1, none⟩ = some (.int .i64 y) := cell_of_row w b 1 _ _ (0, 0) h
theorem Box.z {w : World} {b : Nat} {x y : Int} (h : Box w b x y) (i : Nat) : w.frozen? ⟨b, i, none⟩ = false := by
  have h' : w.heap[b]? = some (.cells #[.int .i64 x, .int .i64 y] 41 (0, 0)) := h
  simp [World.frozen?, h']
theorem Cur.box {w : World} {S g b i : Nat} {v : Value} (hc : Cur w S g) (hb : b ≠ g) (hS : S ≤ b) : Cur (w.setCell ⟨b, i, none⟩ v) S g := by
  obtain ⟨A, n, c, j, h, hbk, h0, h1, h2, hs, h3⟩ := hc
  exact ⟨A, n, c, j, h, (heap_setCell_other w ⟨b, i, none⟩ g _ (fun e => hb e.symm)).trans hbk, h0, h1, h2, hs, h3.keep fun k hk => heap_setCell_other w ⟨b, i, none⟩ k _ (fun e => by have : k = b := e; omega)⟩
theorem grown_box {W w : World} {g b i : Nat} {v : Value} (h : W.grownBy w (some g)) (hb : W.heap.size ≤ b) : W.grownBy (w.setCell ⟨b, i, none⟩ v) (some g) :=
  ⟨h.os, h.tape, h.output, by have := h.size; simpa using this, fun k hk hne => (heap_setCell_other w ⟨b, i, none⟩ k _ (fun e => by have : k = b := e; omega)).trans (h.block k hk hne)⟩
theorem Rd.box {w : World} {size n b i : Nat} {A : Option Addr} {xs : List Value} {v : Value} (h : Rd w size A n xs) (hne : ∀ p, A = some p → b < p.block) : Rd (w.setCell ⟨b, i, none⟩ v) size A n xs :=
  ⟨h.1, fun hn => by
    obtain ⟨b', o, e, hc⟩ := h.2 hn
    have hlt : b < b' := hne _ e
    exact ⟨b', o, e, fun j u hu => (World.cell?_of_block (w := w) (heap_setCell_other w ⟨b, i, none⟩ b' _ (fun e => by have : b' = b := e; omega))).trans (hc j u hu)⟩⟩
theorem grown_below {W w w' : World} {g : Nat} (h : W.grownBy w (some g)) (hb : Below w.heap.size w w') : W.grownBy w' (some g) := grown_trans h ⟨hb.os, hb.tape, hb.output, hb.size, fun k hk _ => hb.block k hk⟩

def IntOut (w : World) (S g : Nat) (e : Ending) (w' : World) : Prop := ∃ x : Int, e = .returned (.int .i64 x) ∧ -9223372036854775808 ≤ x ∧ x ≤ 9223372036854775807 ∧ Cur w' S g ∧ w.grownBy w' (some g)
def SlotOut (w : World) (S g : Nat) (e : Ending) (w' : World) : Prop := ∃ p r : Int, e = .returned (.agg #[.int .i64 p, .int .i64 r]) ∧ Cur w' S g ∧ w.grownBy w' (some g)
theorem l03Slot_c (S g : Nat) (pages : Int) (w : World) (hc : Cur w S g) (hsg : S ≤ g) (hp : pages ≤ 1048576) : Calls Try.prog 128 #[.pointer (some ⟨g, 0, none⟩), .int .i64 pages] w (SlotOut w S g) := by
  have HP := Lib.hid hp
  have hlt := hc.lt
  have hc0 := hc.below ((Below.refl _ _).alloc (Nat.le_refl _) (.cells #[.int .i64 0, .int .i64 0] 41))
  have g0 := grown_alloc (World.grownBy.refl w (some g)) (.cells #[.int .i64 0, .int .i64 0] 41)
  have b0 := Lib.hid (Box.new w 0 0)
  clear hp hc
  go_enter Try.func128, Try.ntmps128
  go_wp2_with fail
  refine (l01Once_c _ _ 5 _ hc0 (by omega)).mono ?_
  rintro e w1 ⟨x, rfl, hc1, g1⟩
  have b1 := Lib.hid (b0.out.grown g1 (by omega))
  replace g1 := grown_trans g0 g1
  clear g0 b0 hc0
  cases x
  · go_wp2_with fail
    refine (l01Below_c _ _ pages _ hc1 (by have := HP.out; omega)).mono ?_
    rintro e w2 ⟨p, rfl, p0, p1, hc2, g2⟩
    clear p0 p1
    have b2 := b1.out.grown g2 (by omega)
    replace g2 := grown_trans g1 g2
    have hlt2 := hc2.lt
    have hlit := World.ownsRow_lit (base := w2.heap.size) (e := 3) (size := 1) w2 #[.int .i64 3, .int .i64 3, .int .i64 3, .int .i64 1, .int .i64 2] 5 (Nat.le_refl _) (by unfold maxLen; omega) (by simp)
    have hbl := (Below.refl w2.heap.size w2).alloc (Nat.le_refl _) (.cells #[.int .i64 3, .int .i64 3, .int .i64 3, .int .i64 1, .int .i64 2] 3)
    have g3 := grown_below g2 hbl
    have HC := Lib.hid (hc2.below hbl)
    have HR := Lib.hid (Rd.of_own hlit)
    have b3 := Lib.hid (b2.below hbl)
    clear hlit hc1 hc2 g1 g2 hbl b1 b2
    go_wp2_with fail
    refine (l01PickInt_c S g (some ⟨w2.heap.size, 0, none⟩) 5 5 [3, 3, 3, 1, 2] _ HC.out HR.out (by omega) (by omega) (by intro b o e; injection e with e; injection e with e; omega)).mono ?_
    rintro e w4 ⟨r, rfl, hr, hc4, g4⟩
    clear hr
    have b4 := b3.out.grown g4 (by omega)
    have d0 := b4.c0
    have d1 := b4.c1
    have z0 := b4.z 0
    have z1 := b4.z 1
    have g5 := grown_trans g3 g4
    clear HC HR g3 g4 b3 b4
    go_wp2
    exact bodyPost_ret (v := .agg #[.int .i64 p, .int .i64 r]) (by simp [results, Try.results128, go_sem, d0, d1]) rfl ⟨p, r, rfl, (hc4.box (by omega) (by omega)).box (by omega) (by omega), grown_box (grown_box g5 (Nat.le_refl _)) (Nat.le_refl _)⟩
  · go_wp2_with fail
    refine (sNoSlot_c _).mono ?_
    rintro e w2 ⟨rfl, hb2⟩
    have b2 := b1.out.below hb2
    have hc2 := hc1.below hb2
    have g2 := grown_below g1 hb2
    have d0 := b2.c0
    have d1 := b2.c1
    have z0 := b2.z 0
    have z1 := b2.z 1
    clear b1 b2 hb2 hc1 g1
    go_wp2
    exact bodyPost_ret (v := .agg #[.int .i64 (-1), .int .i64 0]) (by simp [results, Try.results128, go_sem, d0, d1]) rfl ⟨-1, 0, rfl, (hc2.box (by omega) (by omega)).box (by omega) (by omega), grown_box (grown_box g2 (Nat.le_refl _)) (Nat.le_refl _)⟩
theorem l03Any_c (S g : Nat) (pages : Int) (w : World) (hc : Cur w S g) (hsg : S ≤ g) (hp : pages ≤ 1048576) : Calls Try.prog 121 #[.pointer (some ⟨g, 0, none⟩), .int .i64 pages] w (SlotOut w S g) := by
  have HP := Lib.hid hp
  have hlt := hc.lt
  have hc0 := hc.below ((Below.refl _ _).alloc (Nat.le_refl _) (.cells #[.int .i64 0, .int .i64 0] 41))
  have g0 := grown_alloc (World.grownBy.refl w (some g)) (.cells #[.int .i64 0, .int .i64 0] 41)
  have b0 := Lib.hid (Box.new w 0 0)
  clear hp hc
  go_enter Try.func121, Try.ntmps121
  go_wp2_with fail
  refine (l03Slot_c _ _ _ _ hc0 hsg HP.out).mono ?_
  rintro e w1 ⟨p, r, rfl, hc1, g1⟩
  have b1 := Lib.hid (b0.out.grown g1 (by omega))
  replace g1 := grown_trans g0 g1
  clear g0 b0 hc0
  go_wp2_with fail
  have hlt1 := hc1.lt
  have hsz := g1.size
  have hlw := b1.out.lt
  have hbl := (Below.refl w1.heap.size w1).alloc (Nat.le_refl _) (.cells #[.int .i64 p, .int .i64 r] 41)
  have HC := Lib.hid (hc1.below hbl)
  have G := Lib.hid (grown_below g1 hbl)
  have B := Lib.hid (b1.out.below hbl)
  have T := Lib.hid (Box.new w1 p r)
  clear hbl hc1 g1 b1
  refine (l01Below_c _ _ 12 _ HC.out (by omega)).mono ?_
  rintro e w2 ⟨x, rfl, x0, x1, hc2, g2⟩
  have B2 := Lib.hid (B.out.grown g2 (by omega))
  have T2 := Lib.hid (T.out.grown g2 (by omega))
  have G2 := Lib.hid (grown_trans G.out g2)
  have C2 := Lib.hid hc2
  clear HC G B T hc2 g2 x0 x1
  by_cases hx0 : x = 0
  · subst hx0
    have hlt2 := C2.out.lt
    have hs2 := T2.out.lt
    have hlit := World.ownsRow_lit (base := w2.heap.size) (e := 3) (size := 1) w2 #[.int .i64 (-1), .int .i64 (-2), .int .i64 pages, .int .i64 9223372036854775807, .int .i64 (-9223372036854775808)] 5 (Nat.le_refl _) (by unfold maxLen; omega) (by simp)
    have hbl := (Below.refl w2.heap.size w2).alloc (Nat.le_refl _) (.cells #[.int .i64 (-1), .int .i64 (-2), .int .i64 pages, .int .i64 9223372036854775807, .int .i64 (-9223372036854775808)] 3)
    have HR := Lib.hid (Rd.of_own hlit)
    have C3 := Lib.hid (C2.out.below hbl)
    have B3 := Lib.hid (B2.out.below hbl)
    have T3 := Lib.hid (T2.out.below hbl)
    have G3 := Lib.hid (grown_below G2.out hbl)
    clear hlit hbl C2 B2 T2 G2
    go_wp2_with fail
    refine (l01PickInt_c S g (some ⟨w2.heap.size, 0, none⟩) 5 5 [-1, -2, pages, 9223372036854775807, -9223372036854775808] _ C3.out HR.out (by omega) (by omega) (by intro b o e; injection e with e; injection e with e; omega)).mono ?_
    rintro e w4 ⟨v, rfl, hr, hc4, g4⟩
    clear hr
    have B4 := B3.out.grown g4 (by omega)
    have T4 := (T3.out.grown g4 (by omega)).set0 v
    have t0 := (T3.out.grown g4 (by omega)).c0
    have tz := (T3.out.grown g4 (by omega)).z 0
    have G5 := Lib.hid (grown_box (i := 0) (v := .int .i64 v) (grown_trans G3.out g4) hsz)
    have C5 := Lib.hid (hc4.box (i := 0) (v := .int .i64 v) (b := w1.heap.size) (by omega) (by omega))
    have d0 := T4.c0
    have d1 := T4.c1
    have B5 : Box (w4.setCell ⟨w1.heap.size, 0, none⟩ (.int .i64 v)) w.heap.size 0 0 := (heap_setCell_other w4 ⟨w1.heap.size, 0, none⟩ w.heap.size _ (fun e => by have : w.heap.size = w1.heap.size := e; omega)).trans B4
    have e0 := B5.c0
    have e1 := B5.c1
    have z0 := B5.z 0
    have z1 := B5.z 1
    clear HR C3 B3 T3 G3 hc4 g4 B4 T4 B5
    go_wp2
    exact bodyPost_ret (v := .agg #[.int .i64 v, .int .i64 r]) (by simp [results, Try.results121, go_sem, e0, e1]) rfl ⟨_, _, rfl, (C5.out.box (by omega) (by omega)).box (by omega) (by omega), grown_box (grown_box G5.out (Nat.le_refl _)) (Nat.le_refl _)⟩
  · have hx0' : (x == 0) = false := by simp [hx0]
    by_cases hx1 : x = 1
    · subst hx1
      have hlt2 := C2.out.lt
      have hs2 := T2.out.lt
      go_wp2_with fail
      refine (l02Rights_c S g w2 C2.out).mono ?_
      rintro e w4 ⟨v, rfl, hr, hc4, g4⟩
      clear hr
      have B4 := B2.out.grown g4 (by omega)
      have T4 := (T2.out.grown g4 (by omega)).set1 v
      have t0 := (T2.out.grown g4 (by omega)).c1
      have tz := (T2.out.grown g4 (by omega)).z 1
      have G5 := Lib.hid (grown_box (i := 1) (v := .int .i64 v) (grown_trans G2.out g4) hsz)
      have C5 := Lib.hid (hc4.box (i := 1) (v := .int .i64 v) (b := w1.heap.size) (by omega) (by omega))
      have d0 := T4.c0
      have d1 := T4.c1
      have B5 : Box (w4.setCell ⟨w1.heap.size, 1, none⟩ (.int .i64 v)) w.heap.size 0 0 := (heap_setCell_other w4 ⟨w1.heap.size, 1, none⟩ w.heap.size _ (fun e => by have : w.heap.size = w1.heap.size := e; omega)).trans B4
      have e0 := B5.c0
      have e1 := B5.c1
      have z0 := B5.z 0
      have z1 := B5.z 1
      clear B2 T2 G2 C2 hc4 g4 B4 T4 B5
      go_wp2
      exact bodyPost_ret (v := .agg #[.int .i64 p, .int .i64 v]) (by simp [results, Try.results121, go_sem, e0, e1]) rfl ⟨_, _, rfl, (C5.out.box (by omega) (by omega)).box (by omega) (by omega), grown_box (grown_box G5.out (Nat.le_refl _)) (Nat.le_refl _)⟩
    · have hx1' : (x == 1) = false := by simp [hx1]
      have hlt2 := C2.out.lt
      have d0 := T2.out.c0
      have d1 := T2.out.c1
      have e0 := B2.out.c0
      have e1 := B2.out.c1
      have z0 := B2.out.z 0
      have z1 := B2.out.z 1
      clear B2 T2
      go_wp2
      exact bodyPost_ret (v := .agg #[.int .i64 p, .int .i64 r]) (by simp [results, Try.results121, go_sem, e0, e1]) rfl ⟨_, _, rfl, (C2.out.box (by omega) (by omega)).box (by omega) (by omega), grown_box (grown_box G2.out (Nat.le_refl _)) (Nat.le_refl _)⟩
def TableOut (w : World) (S g N : Nat) (e : Ending) (w' : World) : Prop := ∃ (A : Option Addr) (cc : Nat) (l : List Sl), e = .returned (.slice A N cc) ∧ l.length = N ∧ w'.ownsRow w.heap.size 41 2 (.slice A N cc) N (slotCells l) ∧ Cur w' S g ∧ w.grownBy w' (some g)
theorem l03Table_c (S g N : Nat) (pages : Int) (w : World) (hc : Cur w S g) (hsg : S ≤ g) (hp : pages ≤ 1048576) (hN : N ≤ 100) : Calls Try.prog 126 #[.pointer (some ⟨g, 0, none⟩), .int .i64 N, .int .i64 pages] w (TableOut w S g N) := by
  obtain ⟨i0, hi, hz0, hz1, hz2⟩ := info_parts info_SlotD
  have hlt := hc.lt
  have hlit := World.ownsRow_lit (base := w.heap.size) (e := 41) (size := 2) w #[] 0 (Nat.le_refl _) (by unfold maxLen; omega) (by simp)
  have g1 := grown_alloc (World.grownBy.refl w (some g)) (.cells #[] 41)
  have HC := Lib.hid (hc.below ((Below.refl _ _).alloc (Nat.le_refl _) (.cells #[] 41)))
  have HL := Lib.hid hlit
  have HP := Lib.hid hp
  clear hc hlit hp
  go_enter Try.func126, Try.ntmps126
  go_wp2
  go_loopw [7, 8] (fun v i wr => ∃ (k : Nat) (G : Option Addr) (cc : Nat) (l : List Sl), k ≤ N ∧ i = .int .i64 k ∧ v = .slice G k cc ∧ l.length = k ∧ wr.ownsRow w.heap.size 41 2 (.slice G k cc) k (slotCells l) ∧ Cur wr S g ∧ w.grownBy wr (some g)) (fun _ i _ => N - (intOf i).toNat)
  case atStart => exact ⟨0, _, _, [], by omega, rfl, rfl, rfl, HL.out, HC.out, g1⟩
  case round =>
    obtain ⟨k, G, cc, l, hk, rfl, rfl, hll, hown, hcur, hgr⟩ := hrel
    clear HC HL g1
    by_cases hltN : k < N
    · go_wp2_with fail
      refine (l03Slot_c S g pages wr hcur hsg HP.out).mono ?_
      rintro e w2 ⟨p, r, rfl, hc2, g2⟩
      have hown2 := own_cur hown hcur (by decide) g2
      have hgr2 := grown_trans hgr g2
      have hsz := hgr2.size
      clear hown hcur g2 hgr
      go_wp2_with (at_builtin; refine wpList_append_own _ rfl _ _ 22 rfl w.heap.size 41 i0 (.agg #[.int .i64 0, .int .i64 0]) 2 16 Try.underlying22 hi hz0 hz1 hz2 rfl (by decide) (.slice G k cc) k (slotCells l) rfl (hown2.alloc _) ⟨w2.heap.size, 0, none⟩ 1 1 [.int .i64 p, .int .i64 r] rfl rfl (new_one w2 #[.int .i64 p, .int .i64 r] _) ?c2 ?c3 ?c4 ?c5 ?_)
      case c2 => intro u hu; simp at hu; rcases hu with rfl | rfl <;> rfl
      case c3 => unfold maxLen; omega
      case c4 => omega
      case c5 => simp; omega
      intro v' w3 hown3 hgr3 _
      have hgr4 := grown_own (grown_alloc hgr2 _) (hown2.alloc _) (Nat.le_refl _) hgr3
      have hc3 := (hc2.below ((Below.refl _ _).alloc (Nat.le_refl _) (.cells #[.int .i64 p, .int .i64 r] 41))).own (hown2.alloc _) (by decide) (by omega) hgr3
      obtain ⟨G', cc', rfl⟩ := own_shape hown3
      have HO : Hid (w3.ownsRow w.heap.size 41 2 (.slice G' (k + 1) cc') (k + 1) (slotCells (l ++ [(p, r)]))) := Lib.hid (by rw [slotCells_append]; exact hown3)
      clear hown3 hgr3 hown2 hgr2
      go_wp2
      go_roundw
      case rel => exact ⟨k + 1, G', cc', l ++ [(p, r)], by omega, by go_num, rfl, by simp [hll], HO.out, hc3, hgr4⟩
      case measure => simp [intOf]; omega
    · obtain rfl : k = N := by omega
      go_wp2
      go_ret
      exact ⟨G, cc, l, rfl, hll, hown, hcur, hgr⟩
theorem l03Page_c (S g : Nat) (w : World) (hc : Cur w S g) (hsg : S ≤ g) : Calls Try.prog 114 #[.pointer (some ⟨g, 0, none⟩)] w (PickOut w S g [0, 1, 2, 3, 3, 4, 7, 8, -1, 9223372036854775807, -9223372036854775808]) := by
  have hlt := hc.lt
  have hlit := World.ownsRow_lit (base := w.heap.size) (e := 3) (size := 1) w #[.int .i64 0, .int .i64 1, .int .i64 2, .int .i64 3, .int .i64 3, .int .i64 4, .int .i64 7, .int .i64 8, .int .i64 (-1), .int .i64 9223372036854775807, .int .i64 (-9223372036854775808)] 11 (Nat.le_refl _) (by unfold maxLen; omega) (by simp)
  have g0 := grown_alloc (World.grownBy.refl w (some g)) (.cells #[.int .i64 0, .int .i64 1, .int .i64 2, .int .i64 3, .int .i64 3, .int .i64 4, .int .i64 7, .int .i64 8, .int .i64 (-1), .int .i64 9223372036854775807, .int .i64 (-9223372036854775808)] 3)
  have HC := Lib.hid (hc.below ((Below.refl _ _).alloc (Nat.le_refl _) (.cells #[.int .i64 0, .int .i64 1, .int .i64 2, .int .i64 3, .int .i64 3, .int .i64 4, .int .i64 7, .int .i64 8, .int .i64 (-1), .int .i64 9223372036854775807, .int .i64 (-9223372036854775808)] 3)))
  have HR := Lib.hid (Rd.of_own hlit)
  clear hlit hc
  go_enter Try.func114, Try.ntmps114
  go_wp2_with fail
  refine (l01PickInt_c S g (some ⟨w.heap.size, 0, none⟩) 11 11 [0, 1, 2, 3, 3, 4, 7, 8, -1, 9223372036854775807, -9223372036854775808] _ HC.out HR.out (by omega) (by omega) (by intro b o e; injection e with e; injection e with e; omega)).mono ?_
  rintro e w1 ⟨x, rfl, hx, hc1, g1⟩
  have HX := Lib.hid hx
  clear hx
  go_wp2
  go_ret
  exact ⟨x, rfl, HX.out, hc1, grown_trans g0 g1⟩
theorem l06Need_c (S g : Nat) (w : World) (hc : Cur w S g) (hsg : S ≤ g) : Calls Try.prog 115 #[.pointer (some ⟨g, 0, none⟩)] w (PickOut w S g [1, 1, 2, 2, 3, 0, 4, -1]) := by
  have hlt := hc.lt
  have hlit := World.ownsRow_lit (base := w.heap.size) (e := 3) (size := 1) w #[.int .i64 1, .int .i64 1, .int .i64 2, .int .i64 2, .int .i64 3, .int .i64 0, .int .i64 4, .int .i64 (-1)] 8 (Nat.le_refl _) (by unfold maxLen; omega) (by simp)
  have g0 := grown_alloc (World.grownBy.refl w (some g)) (.cells #[.int .i64 1, .int .i64 1, .int .i64 2, .int .i64 2, .int .i64 3, .int .i64 0, .int .i64 4, .int .i64 (-1)] 3)
  have HC := Lib.hid (hc.below ((Below.refl _ _).alloc (Nat.le_refl _) (.cells #[.int .i64 1, .int .i64 1, .int .i64 2, .int .i64 2, .int .i64 3, .int .i64 0, .int .i64 4, .int .i64 (-1)] 3)))
  have HR := Lib.hid (Rd.of_own hlit)
  clear hlit hc
  go_enter Try.func115, Try.ntmps115
  go_wp2_with fail
  refine (l01PickInt_c S g (some ⟨w.heap.size, 0, none⟩) 8 8 [1, 1, 2, 2, 3, 0, 4, -1] _ HC.out HR.out (by omega) (by omega) (by intro b o e; injection e with e; injection e with e; omega)).mono ?_
  rintro e w1 ⟨x, rfl, hx, hc1, g1⟩
  have HX := Lib.hid hx
  clear hx
  go_wp2
  go_ret
  exact ⟨x, rfl, HX.out, hc1, grown_trans g0 g1⟩
theorem l06Addr_c (S g : Nat) (w : World) (hc : Cur w S g) (hsg : S ≤ g) : Calls Try.prog 120 #[.pointer (some ⟨g, 0, none⟩)] w (PickOut w S g [0, 1, 5, 11, 15, 16, -1, 9223372036854775807, -9223372036854775808]) := by
  have hlt := hc.lt
  have hlit := World.ownsRow_lit (base := w.heap.size) (e := 3) (size := 1) w #[.int .i64 0, .int .i64 1, .int .i64 5, .int .i64 11, .int .i64 15, .int .i64 16, .int .i64 (-1), .int .i64 9223372036854775807, .int .i64 (-9223372036854775808)] 9 (Nat.le_refl _) (by unfold maxLen; omega) (by simp)
  have g0 := grown_alloc (World.grownBy.refl w (some g)) (.cells #[.int .i64 0, .int .i64 1, .int .i64 5, .int .i64 11, .int .i64 15, .int .i64 16, .int .i64 (-1), .int .i64 9223372036854775807, .int .i64 (-9223372036854775808)] 3)
  have HC := Lib.hid (hc.below ((Below.refl _ _).alloc (Nat.le_refl _) (.cells #[.int .i64 0, .int .i64 1, .int .i64 5, .int .i64 11, .int .i64 15, .int .i64 16, .int .i64 (-1), .int .i64 9223372036854775807, .int .i64 (-9223372036854775808)] 3)))
  have HR := Lib.hid (Rd.of_own hlit)
  clear hlit hc
  go_enter Try.func120, Try.ntmps120
  go_wp2_with fail
  refine (l01PickInt_c S g (some ⟨w.heap.size, 0, none⟩) 9 9 [0, 1, 5, 11, 15, 16, -1, 9223372036854775807, -9223372036854775808] _ HC.out HR.out (by omega) (by omega) (by intro b o e; injection e with e; injection e with e; omega)).mono ?_
  rintro e w1 ⟨x, rfl, hx, hc1, g1⟩
  have HX := Lib.hid hx
  clear hx
  go_wp2
  go_ret
  exact ⟨x, rfl, HX.out, hc1, grown_trans g0 g1⟩
def RowOut (w : World) (S g N : Nat) (e : Ending) (w' : World) : Prop := ∃ (A : Option Addr) (n cc : Nat) (l : List Sl), e = .returned (.slice A n cc) ∧ n ≤ N ∧ Rd w' 2 A n (slotCells l) ∧ (∀ p, A = some p → p.block ≠ g ∧ w.heap.size ≤ p.block) ∧ Cur w' S g ∧ w.grownBy w' (some g)
theorem Rd.take {w : World} {A : Option Addr} {n : Nat} {l : List Sl} (h : Rd w 2 A n (slotCells l)) (k : Nat) (hk : k ≤ n) : Rd w 2 A k (slotCells (l.take k)) := by
  have hl := slots_len h
  refine ⟨by rw [slotCells_length, List.length_take]; omega, fun h0 => ?_⟩
  obtain ⟨b, o, e, hc⟩ := h.2 (by omega)
  refine ⟨b, o, e, fun j u hu => hc j u ?_⟩
  have e2 : slotCells l = slotCells (l.take k) ++ slotCells (l.drop k) := by rw [← slotCells_append, List.take_append_drop]
  rw [e2, List.getElem?_append_left (List.getElem?_eq_some_iff.1 hu).1]
  exact hu
theorem l03AnyTable_c (S g N : Nat) (pages : Int) (w : World) (hc : Cur w S g) (hsg : S ≤ g) (hp : pages ≤ 1048576) (hN : N ≤ 100) (hN0 : 0 < N) : Calls Try.prog 109 #[.pointer (some ⟨g, 0, none⟩), .int .i64 N, .int .i64 pages] w (RowOut w S g N) := by
  have HP := Lib.hid hp
  have hlt := hc.lt
  go_enter Try.func109, Try.ntmps109
  go_wp2_with fail
  refine (l03Table_c S g N pages w hc hsg hp hN).mono ?_
  rintro e w1 ⟨A, cc, l, rfl, hl, hown, hc1, g1⟩
  clear hp
  obtain ⟨gt, rfl⟩ := own_at hown hN0
  have hgt := hown.lt gt rfl
  have hcap := own_cap hown
  have hcc0 : ¬ cc = 0 := by omega
  go_wp2_with fail
  refine (l01Below_c _ _ 8 _ hc1 (by omega)).mono ?_
  rintro e w2 ⟨x, rfl, x0, x1, hc2, g2⟩
  clear x0 x1
  have hown2 := own_cur hown hc1 (by decide) g2
  have G2 := Lib.hid (grown_trans g1 g2)
  have hs1 := g1.size
  have O2 := Lib.hid hown2
  have C2 := Lib.hid hc2
  clear hown hown2 hc1 hc2 g1 g2 hc
  by_cases hx0 : x = 0
  · subst hx0
    go_wp2_with fail
    refine (l01Below_c _ _ N _ C2.out (by omega)).mono ?_
    rintro e w3 ⟨k, rfl, k0, k1, hc3, g3⟩
    rw [if_pos (by omega)] at k1
    have hown3 := own_cur O2.out C2.out (by decide) g3
    have G3 := Lib.hid (grown_trans G2.out g3)
    clear g3 O2 C2 G2
    go_wp2_with fail
    refine (l03Any_c S g pages w3 hc3 hsg HP.out).mono ?_
    rintro e w4 ⟨p, r, rfl, hc4, g4⟩
    have hown4 := own_cur hown3 hc3 (by decide) g4
    have G4 := Lib.hid (grown_trans G3.out g4)
    obtain ⟨j, rfl⟩ := Int.eq_ofNat_of_zero_le k0
    obtain ⟨p', q', -, d0, d1, z0, z1⟩ := own_slot_at hown4 j (by omega)
    have hS := own_slot_set hown4 j (by omega) p r
    have e1 : (w4.setCell ⟨gt, j * 2, none⟩ (.int .i64 p)).cell? ⟨gt, j * 2 + 1, none⟩ = some (.int .i64 q') := by
      rw [World.cell?_setCell_other _ _ _ _ (by simp)]; exact d1
    have e2 : (w4.setCell ⟨gt, j * 2, none⟩ (.int .i64 p)).frozen? ⟨gt, j * 2 + 1, none⟩ = false := by simpa using z1
    have HS := Lib.hid (Rd.of_own hS.1)
    have G5 := Lib.hid (grown_box (i := j * 2 + 1) (v := .int .i64 r) (grown_box (i := j * 2) (v := .int .i64 p) G4.out hgt.1) hgt.1)
    have C5 := Lib.hid ((hc4.box (i := j * 2) (v := .int .i64 p) (b := gt) (by omega) (by omega)).box (i := j * 2 + 1) (v := .int .i64 r) (b := gt) (by omega) (by omega))
    have hjN : j < N := by omega
    clear hS hown4 hown3 hc3 hc4 g4 G3 d1 z1 k0 k1
    go_wp2
    go_ret
    exact ⟨_, N, cc, _, rfl, Nat.le_refl _, HS.out, (by intro p hp; injection hp with hp; subst hp; show gt ≠ g ∧ w.heap.size ≤ gt; omega), C5.out, G5.out⟩
  · have hx0' : (x == 0) = false := by simp [hx0]
    by_cases hx1 : x = 1
    · subst hx1
      go_wp2_with fail
      refine (l01Below_c _ _ N _ C2.out (by omega)).mono ?_
      rintro e w3 ⟨k, rfl, k0, k1, hc3, g3⟩
      rw [if_pos (by omega)] at k1
      obtain ⟨j, rfl⟩ := Int.eq_ofNat_of_zero_le k0
      have R3 := (Rd.of_own (own_cur O2.out C2.out (by decide) g3)).take j (by omega)
      have hjc : j ≤ cc := by omega
      have hjn : (j : Int) ≤ 9223372036854775807 := by omega
      have G3 := grown_trans G2.out g3
      have C3 := Lib.hid hc3
      clear g3 O2 C2 G2 hc3
      go_wp2
      go_ret
      exact ⟨_, j, _, _, rfl, by omega, R3, (by intro p hp; injection hp with hp; subst hp; show gt ≠ g ∧ w.heap.size ≤ gt; omega), C3.out, G3⟩
    · have hx1' : (x == 1) = false := by simp [hx1]
      go_wp2
      go_ret
      exact ⟨_, N, cc, l, rfl, Nat.le_refl _, Rd.of_own O2.out, (by intro p hp; injection hp with hp; subst hp; show gt ≠ g ∧ w.heap.size ≤ gt; omega), C2.out, G2.out⟩
end Go.Proofs.Ytlfnhfipnjgifaa
