/- Contracts of memory functions: MemNew and the copies. Bounds: at most 1048576 rows of at most 1048576 numbers. -/
import Derived.Test.YtjgphiialfhdlaaMemF1
namespace Go.Proofs.Ytjgphiialfhdlaa
open Go.RowKit
set_option linter.unusedVariables false
set_option maxHeartbeats 1000000

theorem hmk4 : ∀ w : World, (Instr.makeSlice 22 (.int .i64 4) (.int .i64 4)).run Try.prog w = .ok (.slice (some ⟨w.heap.size, 0, none⟩) 4 4) (w.alloc (.cells #[.int .i64 0, .int .i64 0, .int .i64 0, .int .i64 0] 3)) := fun _ => by kernel_rfl
theorem OwnMx.none_ (w : World) (base : Nat) (hb : base ≤ w.heap.size) : OwnMx (w.alloc (.cells #[] 22)) base (some ⟨w.heap.size, 0, none⟩) 0 0 [] [] :=
  ⟨World.ownsRow_lit w #[] 0 hb (by simp) (by simp), rfl, fun i v l h => by simp at h, fun i j v v' _ h => by simp at h⟩
/-- One row more: the row's value is first laid in a block of its own, then appended. -/
theorem OwnMx.pushed {w w3 : World} {base n c m : Nat} {A A' : Option Addr} {L : List (List Int)} {vs : List Value} {X : Obj} (h : OwnMx w base A n c L vs) (l : List Int) (Ai : Option Addr) (ci : Nat) (ho : w.ownsRow base 3 1 (.slice Ai l.length ci) l.length (intCells l))
    (hf : ∀ (i : Nat) (x : Value), vs[i]? = some x → (x.ownBlock = none ∨ x.ownBlock ≠ (Value.slice Ai l.length ci).ownBlock) ∧ ((Value.slice Ai l.length ci).ownBlock = none ∨ (Value.slice Ai l.length ci).ownBlock ≠ x.ownBlock))
    (hr : w3.ownsRow base 22 1 (.slice A' (n + 1) m) (n + 1) (vs ++ [.slice Ai l.length ci])) (hg : (w.alloc X).grownBy w3 (Value.slice A n c).ownBlock) : OwnMx w3 base A' (n + 1) m (L ++ [l]) (vs ++ [.slice Ai l.length ci]) :=
  (h.kept ((Below.refl _ _).alloc (Nat.le_refl _) X)).push _ l Ai ci rfl (ho.alloc X) hf hr hg
theorem copyInts_c (A : Option Addr) (n c : Nat) (l : List Int) (w : World) (ha : Rd w 1 A n (intCells l)) (hn : n ≤ 1048576) :
    Calls Try.prog 63 #[.slice A n c] w (Made w 3 1 n (intCells l)) := by
  obtain ⟨i0, hi, hz0, hz1, hz2⟩ := info_parts info_int'
  have hown0 := World.ownsRow_lit (base := w.heap.size) (e := 3) (size := 1) w #[] 0 (Nat.le_refl _) (by simp) (by simp)
  have hbel0 : Below w.heap.size w (w.alloc (.cells #[] 3)) := (Below.refl _ _).alloc (Nat.le_refl _) _
  go_enter Try.func63, Try.ntmps63
  go_wp2_with (at_builtin; refine wpList_append_rd _ rfl _ _ 22 rfl w.heap.size 3 i0 (.int .i64 0) 1 8 Try.underlying22 hi hz0 hz1 hz2 rfl (by decide) (.slice (some ⟨w.heap.size, 0, none⟩) 0 0) 0 [] rfl hown0 A n c (intCells l) rfl (ha.below hbel0) (intCells_one l) (by unfold maxLen; omega) (by omega) (by simp) ?_; intro v1 w1 hown1 hgr1)
  have hbel1 := below_grown hbel0 hown0 (Nat.le_refl _) hgr1
  simp only [Nat.zero_add, List.nil_append] at hown1
  go_ret
  exact Made.mk rfl hown1 hbel1
theorem copyMem_c (A : Option Addr) (n c : Nat) (L : List (List Int)) (w : World) (ha : Mx w A n L) (hn : n ≤ 1048576) (hr : Rows L) :
    Calls Try.prog 62 #[.slice A n c] w (MadeMx w n L) := by
  have hl := ha.1
  have HR : Hid (Rows L) := hr
  clear hr
  obtain ⟨i0, hi, hz0, hz1, hz2⟩ := info_parts info_ints
  go_enter Try.func62, Try.ntmps62
  go_wp2
  have hmx0 := OwnMx.none_ w w.heap.size (Nat.le_refl _)
  go_loopw [3, 9] (fun v i wr => ∃ (k : Nat) (G : Option Addr) (cc : Nat), k ≤ n ∧ i = .int .i64 k ∧ v = .slice G k cc ∧ (∃ vs, OwnMx wr w.heap.size G k cc (L.take k) vs) ∧ Below w.heap.size w wr) (fun _ i _ => n - (intOf i).toNat)
  case atStart => exact ⟨0, _, _, by omega, rfl, rfl, ⟨[], by simpa using hmx0⟩, (Below.refl _ _).alloc (Nat.le_refl _) _⟩
  case round =>
    obtain ⟨k, G, cc, hk, rfl, rfl, ⟨vs, hown⟩, hbel⟩ := hrel
    clear hmx0
    by_cases hlt : k < n
    · obtain ⟨b, o, Ai, ci, l, rfl, hlk, c0, hrd⟩ := (ha.below hbel).row k hlt
      have hq := HR.out k l hlk
      have H1 := Lib.hid hlk
      have H2 := Lib.hid hl
      clear hlk hl
      go_wp2_with fail
      refine (copyInts_c Ai l.length ci l _ hrd hq).mono ?_
      rintro e w2 ⟨A2, c2, rfl, O2, hb2⟩
      have hown2 := hown.kept hb2
      have hfr := hown.fresh O2 (Nat.le_refl _)
      replace O2 := own_base O2 hbel.size
      have hbel2 : Below w.heap.size w w2 := hbel.trans (hb2.mono hbel.size)
      clear hb2 hown hbel c0 hrd
      go_wp2_with (at_builtin; refine wpList_append_own _ rfl _ _ 26 rfl w.heap.size 22 i0 (.slice none 0 0) 1 24 Try.underlying26 hi hz0 hz1 hz2 rfl (by decide) (.slice G k cc) k vs rfl (hown2.row.alloc _) ⟨w2.heap.size, 0, none⟩ 1 1 [.slice A2 l.length c2] rfl rfl (new_one w2 #[.slice A2 l.length c2] _) ?c2 ?c3 ?c4 ?c5 ?_)
      case c2 => first | rfl | (intro u hu; simp at hu; subst hu; rfl)
      case c3 => unfold maxLen; omega
      case c4 => omega
      case c5 => have := hbel2.size; simp; omega
      intro v' w3 hown3 hgr3 _
      have hbel3 := below_grown (hbel2.alloc hbel2.size _) (hown2.row.alloc _) (Nat.le_refl _) hgr3
      obtain ⟨G', cc', rfl⟩ := own_shape hown3
      have hP := hown2.pushed l _ _ O2 hfr hown3 hgr3
      have HP := Lib.hid hP
      clear hP hown3 hgr3 hown2 O2 hfr hbel2
      go_wp2
      go_roundw
      case rel =>
        refine ⟨k + 1, G', cc', by omega, by go_num, rfl, ⟨vs ++ [.slice A2 l.length c2], ?_⟩, hbel3⟩
        · rw [List.take_add_one, H1.out]
          exact HP.out
      case measure => simp [intOf]; omega
    · go_wp2
      go_ret
      obtain rfl : k = n := by omega
      rw [List.take_of_length_le (by omega)] at hown
      exact ⟨_, _, vs, rfl, hown, hbel⟩
theorem l04Copy_c (A : Option Addr) (n c : Nat) (L : List (List Int)) (w : World) (ha : Mx w A n L) (hn : n ≤ 1048576) (hr : Rows L) :
    Calls Try.prog 61 #[.slice A n c] w (MadeMx w n L) := by
  obtain ⟨j0, gi, gz0, gz1, gz2⟩ := info_parts info_int'
  have hl := ha.1
  have HR : Hid (Rows L) := hr
  clear hr
  obtain ⟨i0, hi, hz0, hz1, hz2⟩ := info_parts info_ints
  go_enter Try.func61, Try.ntmps61
  go_wp2
  have hmx0 := OwnMx.none_ w w.heap.size (Nat.le_refl _)
  go_loopw [3, 4] (fun v i wr => ∃ (k : Nat) (G : Option Addr) (cc : Nat), k ≤ n ∧ i = .int .i64 k ∧ v = .slice G k cc ∧ (∃ vs, OwnMx wr w.heap.size G k cc (L.take k) vs) ∧ Below w.heap.size w wr) (fun _ i _ => n - (intOf i).toNat)
  case atStart => exact ⟨0, _, _, by omega, rfl, rfl, ⟨[], by simpa using hmx0⟩, (Below.refl _ _).alloc (Nat.le_refl _) _⟩
  case round =>
    obtain ⟨k, G, cc, hk, rfl, rfl, ⟨vs, hown⟩, hbel⟩ := hrel
    clear hmx0
    by_cases hlt : k < n
    · obtain ⟨b, o, Ai, ci, l, rfl, hlk, c0, hrd⟩ := (ha.below hbel).row k hlt
      have hq := HR.out k l hlk
      have H1 := Lib.hid hlk
      have H2 := Lib.hid hl
      clear hlk hl
      have hlit := World.ownsRow_lit (base := wr.heap.size) (e := 3) (size := 1) wr #[] 0 (Nat.le_refl _) (by simp) (by simp)
      have hbl : Below wr.heap.size wr (wr.alloc (.cells #[] 3)) := (Below.refl _ _).alloc (Nat.le_refl _) _
      have c0' := below_keep hbl _ _ c0
      go_wp2_with (first | (at_builtin; refine wpList_append_rd _ rfl (.tmp 13) (.tmp 17) 22 rfl wr.heap.size 3 j0 (.int .i64 0) 1 8 Try.underlying22 gi gz0 gz1 gz2 rfl (by decide) (.slice (some ⟨wr.heap.size, 0, none⟩) 0 0) 0 [] rfl hlit Ai l.length ci (intCells l) rfl (hrd.below hbl) (intCells_one l) (by unfold maxLen; omega) (by omega) (by simp) ?_; intro v2 w2 O2 hg2; have hbw := below_grown hbl hlit (Nat.le_refl _) hg2; have hown2 := hown.kept hbw; simp only [Nat.zero_add, List.nil_append] at O2; have hfr := hown.fresh O2 (Nat.le_refl _); replace O2 := own_base O2 hbel.size; have hbel2 : Below w.heap.size w w2 := hbel.trans (hbw.mono hbel.size); obtain ⟨A2, c2, rfl⟩ := own_shape O2; clear hg2 hbw) | (at_builtin; refine wpList_append_own _ rfl (.tmp 12) (.tmp 19) 26 rfl w.heap.size 22 i0 (.slice none 0 0) 1 24 Try.underlying26 hi hz0 hz1 hz2 rfl (by decide) (.slice G k cc) k vs rfl (hown2.row.alloc _) ⟨w2.heap.size, 0, none⟩ 1 1 [.slice A2 l.length c2] rfl rfl (new_one w2 #[.slice A2 l.length c2] _) ?c2 ?c3 ?c4 ?c5 ?_))
      case c2 => first | rfl | (intro u hu; simp at hu; subst hu; rfl)
      case c3 => unfold maxLen; omega
      case c4 => omega
      case c5 => have := hbel2.size; simp; omega
      intro v' w3 hown3 hgr3 _
      have hbel3 := below_grown (hbel2.alloc hbel2.size _) (hown2.row.alloc _) (Nat.le_refl _) hgr3
      obtain ⟨G', cc', rfl⟩ := own_shape hown3
      have hP := hown2.pushed l _ _ O2 hfr hown3 hgr3
      have HP := Lib.hid hP
      clear hP hown3 hgr3 hown2 O2 hfr hbel2 hown hbel hlit hbl c0 c0' hrd
      go_wp2
      go_roundw
      case rel =>
        refine ⟨k + 1, G', cc', by omega, by go_num, rfl, ⟨vs ++ [.slice A2 l.length c2], ?_⟩, hbel3⟩
        · rw [List.take_add_one, H1.out]
          exact HP.out
      case measure => simp [intOf]; omega
    · go_wp2
      go_ret
      obtain rfl : k = n := by omega
      rw [List.take_of_length_le (by omega)] at hown
      exact ⟨_, _, vs, rfl, hown, hbel⟩
end Go.Proofs.Ytjgphiialfhdlaa
