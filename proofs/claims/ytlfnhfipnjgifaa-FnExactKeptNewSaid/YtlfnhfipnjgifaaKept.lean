/- Contracts of the laws' own functions on Kept: size, copy, compare. The slices hold at most 1048576 elements. -/
import Derived.Test.YtlfnhfipnjgifaaBoolL
import Derived.Test.YtlfnhfipnjgifaaSl
import Derived.Test.YtlfnhfipnjgifaaInt
namespace Go.Proofs.Ytlfnhfipnjgifaa
open Go.RowKit
set_option linter.unusedVariables false
set_option linter.unusedSimpArgs false
set_option maxHeartbeats 1000000

/-- A block of two values. -/
def KBox (w : World) (b : Nat) (t : TypeId) (x y : Value) : Prop := w.heap[b]? = some (.cells #[x, y] t (0, 0))
theorem KBox.lt {w : World} {b : Nat} {t : TypeId} {x y : Value} (h : KBox w b t x y) : b < w.heap.size := by
  rcases Nat.lt_or_ge b w.heap.size with hlt | hge
  · exact hlt
  · unfold KBox at h; rw [Array.getElem?_eq_none hge] at h; cases h
theorem KBox.new (w : World) (t : TypeId) (x y : Value) : KBox (w.alloc (.cells #[x, y] t)) w.heap.size t x y := by
  first | exact Array.getElem?_push_size | (simp [KBox]; done)
theorem KBox.below {w w' : World} {b : Nat} {t : TypeId} {x y : Value} (h : KBox w b t x y) (hb : Below w.heap.size w w') : KBox w' b t x y := (hb.block b h.lt).trans h
theorem KBox.alloc {w : World} {b : Nat} {t : TypeId} {x y : Value} (h : KBox w b t x y) (o : Obj) : KBox (w.alloc o) b t x y := h.below ((Below.refl _ _).alloc (Nat.le_refl _) _)
theorem KBox.set0 {w : World} {b : Nat} {t : TypeId} {x y : Value} (h : KBox w b t x y) (p : Value) : KBox (w.setCell ⟨b, 0, none⟩ p) b t p y := heap_setCell_same w b 0 _ _ _ h
theorem KBox.set1 {w : World} {b : Nat} {t : TypeId} {x y : Value} (h : KBox w b t x y) (p : Value) : KBox (w.setCell ⟨b, 1, none⟩ p) b t x p := heap_setCell_same w b 1 _ _ _ h
theorem KBox.other {w : World} {b c i : Nat} {t : TypeId} {x y p : Value} (h : KBox w b t x y) (hne : b ≠ c) : KBox (w.setCell ⟨c, i, none⟩ p) b t x y := (heap_setCell_other w ⟨c, i, none⟩ b _ hne).trans h
theorem KBox.c0 {w : World} {b : Nat} {t : TypeId} {x y : Value} (h : KBox w b t x y) : w.cell? ⟨b, 0, none⟩ = some x := cell_of_row w b 0 _ _ (0, 0) h
theorem KBox.c1 {w : World} {b : Nat} {t : TypeId} {x y : Value} (h : KBox w b t x y) : w.cell? ⟨b, 1, none⟩ = some y := cell_of_row w b 1 _ _ (0, 0) h
theorem KBox.z {w : World} {b : Nat} {t : TypeId} {x y : Value} (h : KBox w b t x y) (i : Nat) : w.frozen? ⟨b, i, none⟩ = false := by
  have h' : w.heap[b]? = some (.cells #[x, y] t (0, 0)) := h
  simp [World.frozen?, h']
theorem own_setCell {w : World} {base size n b i : Nat} {e : TypeId} {v u : Value} {xs : List Value} (h : w.ownsRow base e size v n xs) (hb : b < base) : (w.setCell ⟨b, i, none⟩ u).ownsRow base e size v n xs :=
  h.kept (row := some b) ⟨rfl, rfl, rfl, by simp, fun k _ hk => heap_setCell_other w ⟨b, i, none⟩ k _ (fun e => hk (by have : k = b := e; rw [this]))⟩ (by
    rcases hv : v.ownBlock with _ | k
    · exact .inl rfl
    · refine .inr fun e => ?_
      have := h.lt k hv
      injection e with e
      omega)
theorem szKept_y (A B : Option Addr) (n m c d : Nat) (left : Int) (w : World) (hn : n ≤ maxLen) (hm : m ≤ maxLen) (h1 : left ≤ 1048576) (h : (n : Int) + m ≤ left) :
    Calls Try.prog 25 #[.agg #[.slice A n c, .slice B m d], .int .i64 left] w fun e w' => e = .returned (.int .i64 (left - n - m)) ∧ Below w.heap.size w w' := by
  go_enter Try.func25, Try.ntmps25
  go_wp2_with fail
  refine (szBoolS_y A n c left _ hn h1 (by omega)).mono ?_
  rintro e w' ⟨rfl, rfl⟩
  go_wp2_with fail
  refine (szSlotS_y B m d _ _ hm (by omega) (by omega)).mono ?_
  rintro e w' ⟨rfl, rfl⟩
  go_wp2
  go_ret
  exact ⟨rfl, (Below.refl _ _).alloc (Nat.le_refl _) _⟩
theorem szKept_n (A B : Option Addr) (n m c d : Nat) (left : Int) (w : World) (hn : n ≤ maxLen) (hm : m ≤ maxLen) (h0 : 0 ≤ left) (h1 : left ≤ 1048576) (h : ¬ (n : Int) + m ≤ left) :
    Calls Try.prog 25 #[.agg #[.slice A n c, .slice B m d], .int .i64 left] w fun e w' => e = .returned (.int .i64 (-1)) ∧ Below w.heap.size w w' := by
  by_cases h2 : (n : Int) ≤ left
  · go_enter Try.func25, Try.ntmps25
    go_wp2_with fail
    refine (szBoolS_y A n c left _ hn h1 h2).mono ?_
    rintro e w' ⟨rfl, rfl⟩
    go_wp2_with fail
    refine (szSlotS_n B m d _ _ hm (by omega) (by omega) (by omega)).mono ?_
    rintro e w' ⟨rfl, rfl⟩
    go_wp2
    go_ret
    exact ⟨rfl, (Below.refl _ _).alloc (Nat.le_refl _) _⟩
  · go_enter Try.func25, Try.ntmps25
    go_wp2_with fail
    refine (szBoolS_n A n c left _ hn h0 h1 (by omega)).mono ?_
    rintro e w' ⟨rfl, rfl⟩
    go_wp2
    go_ret
    exact ⟨rfl, (Below.refl _ _).alloc (Nat.le_refl _) _⟩
def MadeK (w : World) (n m : Nat) (l : List Bool) (r : List Sl) (e : Ending) (w' : World) : Prop :=
  ∃ A c B d, e = .returned (.agg #[.slice A n c, .slice B m d]) ∧ w'.ownsRow w.heap.size 4 1 (.slice A n c) n (boolCells l) ∧ w'.ownsRow w.heap.size 41 2 (.slice B m d) m (slotCells r) ∧ Below w.heap.size w w'
theorem toKept_c (A B : Option Addr) (n m c d : Nat) (l : List Bool) (r : List Sl) (w : World) (ha : Rd w 1 A n (boolCells l)) (hb : Rd w 2 B m (slotCells r)) (hn : n ≤ 1048576) (hm : m ≤ 1048576) :
    Calls Try.prog 27 #[.agg #[.slice A n c, .slice B m d]] w (MadeK w n m l r) := by
  go_enter Try.func27, Try.ntmps27
  have P0 := ((KBox.new w 35 (.slice A n c) (.slice B m d)).alloc (.cells #[.slice none 0 0, .slice none 0 0] 29)).alloc (.cells #[.slice none 0 0, .slice none 0 0] 29)
  have R0 := (KBox.new (w.alloc (.cells #[.slice A n c, .slice B m d] 35)) 29 (.slice none 0 0) (.slice none 0 0)).alloc (.cells #[.slice none 0 0, .slice none 0 0] 29)
  have O0 := KBox.new ((w.alloc (.cells #[.slice A n c, .slice B m d] 35)).alloc (.cells #[.slice none 0 0, .slice none 0 0] 29)) 29 (.slice none 0 0) (.slice none 0 0)
  have h0 : Below w.heap.size w (((w.alloc (.cells #[.slice A n c, .slice B m d] 35)).alloc (.cells #[.slice none 0 0, .slice none 0 0] 29)).alloc (.cells #[.slice none 0 0, .slice none 0 0] 29)) := (((Below.refl _ _).alloc (Nat.le_refl _) _).alloc (by simp) _).alloc (by simp; omega) _
  have s0 : (((w.alloc (.cells #[.slice A n c, .slice B m d] 35)).alloc (.cells #[.slice none 0 0, .slice none 0 0] 29)).alloc (.cells #[.slice none 0 0, .slice none 0 0] 29)).heap.size = w.heap.size + 3 := by simp
  simp only [World.size_alloc] at R0 O0
  have p0 := P0.c0
  have HP := Lib.hid P0
  have HR := Lib.hid R0
  have HO := Lib.hid O0
  clear P0 R0 O0
  go_wp2_with fail
  refine (toBoolS_c A n c l _ (ha.below h0) hn).mono ?_
  rintro e w1 ⟨A', c', rfl, own1, hb1⟩
  rw [s0] at own1 hb1
  have P1 := HP.out.below (hb1.mono (by omega))
  have R1 := HR.out.below (hb1.mono (by omega))
  have O1 := HO.out.below (hb1.mono (by omega))
  have h1 := h0.trans (hb1.mono (by omega))
  have t0 := O1.c0
  have t1 := O1.z 0
  have P2 := (P1.other (c := w.heap.size + 1 + 1) (i := 0) (p := .slice A' n c') (by omega))
  have R2 := Lib.hid (R1.other (c := w.heap.size + 1 + 1) (i := 0) (p := .slice A' n c') (by omega))
  have O2 := Lib.hid (O1.set0 (.slice A' n c'))
  have own2 := own_setCell (b := w.heap.size + 1 + 1) (i := 0) (u := .slice A' n c') own1 (by omega)
  have h2 := h1.setCell (p := ⟨w.heap.size + 1 + 1, 0, none⟩) (by show w.heap.size ≤ w.heap.size + 1 + 1; omega) (.slice A' n c')
  have s1 := hb1.size
  have p1 := P2.c1
  clear HP HR HO P1 R1 O1 P2 p0 h0 h1 hb1 own1
  go_wp2_with fail
  refine (toSlotS_c B m d r _ (hb.below h2) hm).mono ?_
  rintro e w3 ⟨B', d', rfl, own3, hb3⟩
  have hz : (w1.setCell ⟨w.heap.size + 1 + 1, 0, none⟩ (.slice A' n c')).heap.size = w1.heap.size := by simp
  rw [hz] at own3 hb3
  have s3 := hb3.size
  have hb3' : Below (w1.setCell ⟨w.heap.size + 1 + 1, 0, none⟩ (.slice A' n c')).heap.size (w1.setCell ⟨w.heap.size + 1 + 1, 0, none⟩ (.slice A' n c')) w3 := by rw [hz]; exact hb3
  have R3 := R2.out.below hb3'
  have O3 := O2.out.below hb3'
  have h3 := h2.trans (hb3.mono (by omega))
  have own4 := own_kept own2 hb3'
  have t2 := O3.c1
  have t3 := O3.z 1
  have O4 := O3.set1 (.slice B' m d')
  have R4 := R3.other (c := w.heap.size + 1 + 1) (i := 1) (p := .slice B' m d') (by omega)
  have o0 := O4.c0
  have o1 := O4.c1
  have r0 := R4.c0
  have r1 := R4.c1
  have z0 := R4.z 0
  have z1 := R4.z 1
  have own5 := own_setCell (b := w.heap.size + 1 + 1) (i := 1) (u := .slice B' m d') own4 (by omega)
  have own6 := own_setCell (b := w.heap.size + 1 + 1) (i := 1) (u := .slice B' m d') own3 (by omega)
  have h5 := h3.setCell (p := ⟨w.heap.size + 1 + 1, 1, none⟩) (by show w.heap.size ≤ w.heap.size + 1 + 1; omega) (.slice B' m d')
  have q1 := Lib.hid (own_setCell (b := w.heap.size + 1) (i := 1) (u := .slice B' m d') (own_setCell (b := w.heap.size + 1) (i := 0) (u := .slice A' n c') own5 (by omega)) (by omega))
  have q2 := Lib.hid (own_setCell (b := w.heap.size + 1) (i := 1) (u := .slice B' m d') (own_setCell (b := w.heap.size + 1) (i := 0) (u := .slice A' n c') own6 (by omega)) (by omega))
  have q3 := Lib.hid ((h5.setCell (p := ⟨w.heap.size + 1, 0, none⟩) (by show w.heap.size ≤ w.heap.size + 1; omega) (.slice A' n c')).setCell (p := ⟨w.heap.size + 1, 1, none⟩) (by show w.heap.size ≤ w.heap.size + 1; omega) (.slice B' m d'))
  clear R3 O3 h3 own4 O4 R4 own5 own6 h5 R2 O2 own2 own3 hb3 hb3' h2 hz p1 t0 t1
  go_wp2
  exact bodyPost_ret (v := .agg #[.slice A' n c', .slice B' m d']) (by simp [results, Try.results27, go_sem, r0, r1]) rfl ⟨A', c', B', d', rfl, own_base q1.out (by omega), own_base q2.out (by omega), q3.out⟩
theorem eqBoolS_d (A B : Option Addr) (n c d : Nat) (l : List Bool) (w : World) (ha : Rd w 1 A n (boolCells l)) (hb : Rd w 1 B n (boolCells l)) (hn : n ≤ 1048576) :
    Calls Try.prog 98 #[.slice A n c, .slice B n d] w fun e w' => e = .returned (.bool true) ∧ Below w.heap.size w w' := by
  have := eqBoolS_c A B n n c d l l w ha hb hn hn
  rwa [decide_eq_true rfl] at this
theorem eqKept_t (A B A2 B2 : Option Addr) (n m c d c2 d2 : Nat) (l : List Bool) (r : List Sl) (w : World) (ha : Rd w 1 A n (boolCells l)) (hb : Rd w 2 B m (slotCells r)) (ha2 : Rd w 1 A2 n (boolCells l)) (hb2 : Rd w 2 B2 m (slotCells r)) (hn : n ≤ 1048576) (hm : m ≤ 1048576) :
    Calls Try.prog 22 #[.agg #[.slice A n c, .slice B m d], .agg #[.slice A2 n c2, .slice B2 m d2]] w fun e w' => e = .returned (.bool true) ∧ Below w.heap.size w w' := by
  have P0 := (KBox.new w 29 (.slice A n c) (.slice B m d)).alloc (.cells #[.slice A2 n c2, .slice B2 m d2] 29)
  have R0 := (KBox.new (w.alloc (.cells #[.slice A n c, .slice B m d] 29)) 29 (.slice A2 n c2) (.slice B2 m d2))
  have h0 : Below w.heap.size w ((w.alloc (.cells #[.slice A n c, .slice B m d] 29)).alloc (.cells #[.slice A2 n c2, .slice B2 m d2] 29)) := ((Below.refl _ _).alloc (Nat.le_refl _) _).alloc (by simp) _
  simp only [World.size_alloc] at R0
  have p0 := P0.c0
  have r0 := R0.c0
  have HP := Lib.hid P0
  have HR := Lib.hid R0
  clear P0 R0
  go_enter Try.func22, Try.ntmps22
  go_wp2_with fail
  refine (eqBoolS_d A A2 n c c2 l _ (ha.below h0) (ha2.below h0) hn).mono ?_
  rintro e w1 ⟨rfl, hb1⟩
  have p1 := (HP.out.below hb1).c1
  have r1 := (HR.out.below hb1).c1
  have h1 := h0.trans (hb1.mono h0.size)
  clear HP HR h0 hb1 p0 r0
  go_wp2_with fail
  refine (eqSlotS_t B B2 m d d2 r _ (hb.below h1) (hb2.below h1) hm).mono ?_
  rintro e w2 ⟨rfl, hb2⟩
  have h2 := h1.trans (hb2.mono h1.size)
  clear hb2 p1 r1 h1
  go_wp2
  go_ret
  exact ⟨rfl, h2⟩
/-- Rows whose elements have different types lie in different blocks. -/
theorem own_typeK {w : World} {e1 e2 : TypeId} {s1 s2 n1 n2 b1 b2 : Nat} {v1 v2 : Value} {x1 x2 : List Value} (h1 : w.ownsRow b1 e1 s1 v1 n1 x1) (h2 : w.ownsRow b2 e2 s2 v2 n2 x2) (hne : e1 ≠ e2) : v1.ownBlock = none ∨ v1.ownBlock ≠ v2.ownBlock := by
  rcases h1.2 with ⟨rfl, _⟩ | ⟨g1, cap1, cur1, rfl, _, hh1, _⟩
  · exact .inl rfl
  · refine .inr fun he => ?_
    rcases h2.2 with ⟨rfl, _⟩ | ⟨g2, cap2, cur2, rfl, _, hh2, _⟩
    · simp [Value.ownBlock] at he
    · simp only [Value.ownBlock, Option.some.injEq] at he
      subst he
      rw [hh1] at hh2
      injection hh2 with hh2
      injection hh2 with _ ht
      exact hne ht
def MarkK (w : World) (base n m : Nat) (A : Option Addr) (c : Nat) (B : Option Addr) (d : Nat) (e : Ending) (w' : World) : Prop :=
  e = .returned (.int .i64 (1 + n + 2 * m)) ∧ w'.ownsRow base 4 1 (.slice A n c) n (boolCells (marksBool 1 n)) ∧ w'.ownsRow base 41 2 (.slice B m d) m (slotCells (marksSl (1 + n) m)) ∧ Below base w w' ∧ (∀ k, k < w.heap.size → (Value.slice A n c).ownBlock ≠ some k → (Value.slice B m d).ownBlock ≠ some k → w'.heap[k]? = w.heap[k]?)
theorem markKept_c (A B : Option Addr) (n m c d base : Nat) (l : List Bool) (r : List Sl) (w : World) (ho : w.ownsRow base 4 1 (.slice A n c) n (boolCells l)) (hs : w.ownsRow base 41 2 (.slice B m d) m (slotCells r)) (hn : n ≤ 1048576) (hm : m ≤ 1048576) (hbase : base ≤ w.heap.size) :
    Calls Try.prog 23 #[.agg #[.slice A n c, .slice B m d], .int .i64 1] w (MarkK w base n m A c B d) := by
  have P0 := KBox.new w 29 (.slice A n c) (.slice B m d)
  have h0 : Below w.heap.size w (w.alloc (.cells #[.slice A n c, .slice B m d] 29)) := (Below.refl _ _).alloc (Nat.le_refl _) _
  have p0 := P0.c0
  have HP := Lib.hid P0
  have oa := ho.lt
  have ob := hs.lt
  clear P0
  go_enter Try.func23, Try.ntmps23
  go_wp2_with fail
  refine (markBoolS_c A n c l 1 base _ (own_kept ho h0) hn (by omega) (by omega)).mono ?_
  rintro e w1 ⟨rfl, own1, g1⟩
  have hs0 : (w.alloc (.cells #[.slice A n c, .slice B m d] 29)).heap.size = w.heap.size + 1 := by simp
  have P1 : KBox w1 w.heap.size 29 (.slice A n c) (.slice B m d) := (g1.block _ HP.out.lt (fun e => by have := oa _ e.symm; omega)).trans HP.out
  have sl0 := own_kept hs h0
  have sl1 := sl0.kept g1 (own_typeK sl0 (own_kept ho h0) (by decide))
  have hb1 : Below base w w1 := (h0.mono hbase).grown g1 (by omega) (fun k hk => (oa k hk).1)
  have p1 := P1.c1
  have hs1 := g1.size
  have FA : Hid (∀ k, k < w.heap.size → (Value.slice A n c).ownBlock ≠ some k → w1.heap[k]? = w.heap[k]?) := Lib.hid fun k hk n1 => (g1.block k (by omega) (fun e => n1 e.symm)).trans (h0.block k hk)
  have ob1 := sl1.lt
  have P1' := Lib.hid P1
  have s1 := Lib.hid sl1
  have O1 := Lib.hid own1
  have H1 := Lib.hid hb1
  clear p0 HP h0 g1 P1 sl0 sl1 own1 hb1 ho hs
  go_wp2_with fail
  refine (markSlotS_c B m d r (1 + n) base _ s1.out hm (by omega) (by omega)).mono ?_
  rintro e w2 ⟨rfl, own2, g2⟩
  have O2 := Lib.hid (O1.out.kept g2 (own_typeK O1.out s1.out (by decide)))
  have FR : Hid (∀ k, k < w.heap.size → (Value.slice A n c).ownBlock ≠ some k → (Value.slice B m d).ownBlock ≠ some k → w2.heap[k]? = w.heap[k]?) := Lib.hid fun k hk n1 n2 => (g2.block k (by omega) (fun e => n2 e.symm)).trans (FA.out k hk n1)
  have H2 := Lib.hid (H1.out.grown g2 (by omega) (fun k hk => (ob1 k hk).1))
  have O3 := Lib.hid own2
  clear g2 own2 p1
  go_wp2
  go_ret
  exact ⟨by first | rfl | (congr 2; omega), O2.out, O3.out, H2.out, FR.out⟩
theorem heldKept_c (A B : Option Addr) (n m c d : Nat) (w : World) (ho : Rd w 1 A n (boolCells (marksBool 1 n))) (hs : Rd w 2 B m (slotCells (marksSl (1 + n) m))) (hn : n ≤ 1048576) (hm : m ≤ 1048576) :
    Calls Try.prog 24 #[.agg #[.slice A n c, .slice B m d], .int .i64 1] w fun e w' => e = .returned (.int .i64 (1 + n + 2 * m)) ∧ Below w.heap.size w w' := by
  have P0 := KBox.new w 29 (.slice A n c) (.slice B m d)
  have h0 : Below w.heap.size w (w.alloc (.cells #[.slice A n c, .slice B m d] 29)) := (Below.refl _ _).alloc (Nat.le_refl _) _
  have p0 := P0.c0
  have p1 := P0.c1
  clear P0
  go_enter Try.func24, Try.ntmps24
  go_wp2_with fail
  refine (heldBoolS_c A n c 1 _ (ho.below h0) hn (by omega) (by omega)).mono ?_
  rintro e w1 ⟨rfl, rfl⟩
  go_wp2_with fail
  refine (heldSlotS_c B m d (1 + n) _ (hs.below h0) hm (by omega) (by omega)).mono ?_
  rintro e w1 ⟨rfl, rfl⟩
  go_wp2
  go_ret
  exact ⟨by first | rfl | (congr 2; omega), h0⟩
end Go.Proofs.Ytlfnhfipnjgifaa
