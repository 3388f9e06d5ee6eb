/- Drawn pages and memories: what they are made of; the shapes and the bounds, whatever the bytes are. Condition: the code holds at most 1048576 bytes. -/
import Derived.Test.YtjgphiialfhdlaaDraw
import Derived.Test.YtjgphiialfhdlaaMx
import Derived.Test.YtjgphiialfhdlaaMemF2
import Derived.WalkKit
import Derived.ProofKit
import Derived.Handy
import Derived.WalkLawsBesides
import Derived.Outline
namespace Go.Proofs.Ytjgphiialfhdlaa
open Go.RowKit
set_option linter.unusedVariables false
set_option maxHeartbeats 1000000

/-- What was grown in a cursor's block and in new blocks, then in a row of the call's own. -/
def PageOut (w : World) (S g : Nat) (e : Ending) (w' : World) : Prop := ∃ (G : Option Addr) (cc : Nat) (l : List Int), e = .returned (.slice G 4 cc) ∧ l.length = 4 ∧ (∀ x ∈ l, 0 ≤ x ∧ x ≤ 99) ∧ w'.ownsRow w.heap.size 3 1 (.slice G 4 cc) 4 (intCells l) ∧ Cur w' S g ∧ w.grownBy w' (some g)
theorem l04Page_c (S g : Nat) (w : World) (hc : Cur w S g) (hsg : S ≤ g) : Calls Try.prog 78 #[.pointer (some ⟨g, 0, none⟩)] w (PageOut w S g) := by
  obtain ⟨i0, hi, hz0, hz1, hz2⟩ := info_parts info_int'
  have hlt := hc.lt
  have hlit := World.ownsRow_lit (base := w.heap.size) (e := 3) (size := 1) w #[] 0 (Nat.le_refl _) (by unfold maxLen; omega) (by simp)
  have g1 := grown_alloc (World.grownBy.refl w (some g)) (.cells #[] 3)
  have HC := Lib.hid (hc.below ((Below.refl _ _).alloc (Nat.le_refl _) (.cells #[] 3)))
  have HL := Lib.hid hlit
  clear hc hlit
  go_enter Try.func78, Try.ntmps78
  go_wp2
  go_loopw [3, 4] (fun v i wr => ∃ (k : Nat) (G : Option Addr) (cc : Nat) (l : List Int), k ≤ 4 ∧ i = .int .i64 k ∧ v = .slice G k cc ∧ l.length = k ∧ Hid (∀ x ∈ l, 0 ≤ x ∧ x ≤ 99) ∧ wr.ownsRow w.heap.size 3 1 (.slice G k cc) k (intCells l) ∧ Cur wr S g ∧ w.grownBy wr (some g)) (fun _ i _ => 4 - (intOf i).toNat)
  case atStart => exact ⟨0, _, _, [], by omega, rfl, rfl, rfl, Lib.hid (by simp), HL.out, HC.out, g1⟩
  case round =>
    obtain ⟨k, G, cc, l, hk, rfl, rfl, hll, HR, hown, hcur, hgr⟩ := hrel
    clear HC HL g1
    by_cases hlt4 : k < 4
    · go_wp2_with fail
      refine (l01Below_c S g 100 wr hcur (by omega)).mono ?_
      rintro e w2 ⟨x, rfl, x0, x1, hc2, g2⟩
      have hown2 := own_cur hown hcur (by decide) g2
      have hgr2 := grown_trans hgr g2
      clear hown hcur g2 hgr
      rw [if_pos (by omega)] at x1
      go_wp2_with (at_builtin; refine wpList_append_own _ rfl _ _ 22 rfl w.heap.size 3 i0 (.int .i64 0) 1 8 Try.underlying22 hi hz0 hz1 hz2 rfl (by decide) (.slice G k cc) k (intCells l) rfl (hown2.alloc _) ⟨w2.heap.size, 0, none⟩ 1 1 [.int .i64 x] rfl rfl (new_one w2 #[.int .i64 x] _) ?c2 ?c3 ?c4 ?c5 ?_)
      case c2 => first | rfl | (intro u hu; simp at hu; subst hu; rfl)
      case c3 => unfold maxLen; omega
      case c4 => omega
      case c5 => have := hgr2.size; simp; omega
      intro v' w3 hown3 hgr3 _
      have hgr4 := grown_own (grown_alloc hgr2 _) (hown2.alloc _) (Nat.le_refl _) hgr3
      have hc3 := (hc2.below ((Below.refl _ _).alloc (Nat.le_refl _) (.cells #[.int .i64 x] 3))).own (hown2.alloc _) (by decide) (by omega) hgr3
      obtain ⟨G', cc', rfl⟩ := own_shape hown3
      go_wp2
      go_roundw
      case rel =>
        refine ⟨k + 1, G', cc', l ++ [x], by omega, by go_num, rfl, by simp [hll], Lib.hid ?_, by simpa [intCells] using hown3, hc3, hgr4⟩
        intro z hz
        rcases List.mem_append.mp hz with hz | hz
        · exact HR.out z hz
        · simp at hz; omega
      case measure => simp [intOf]; omega
    · obtain rfl : k = 4 := by omega
      go_wp2
      go_ret
      exact ⟨G, cc, l, rfl, hll, HR.out, hown, hcur, hgr⟩
theorem OwnMx.cur {w w' : World} {S g base n c : Nat} {A : Option Addr} {L : List (List Int)} {vs : List Value} (h : OwnMx w base A n c L vs) (hc : Cur w S g) (hg : w.grownBy w' (some g)) : OwnMx w' base A n c L vs :=
  ⟨own_cur h.row hc (by decide) hg, h.len, fun i v l hv hl => by
    obtain ⟨Ai, ci, e, ho⟩ := h.rows i v l hv hl
    exact ⟨Ai, ci, e, own_cur ho hc (by decide) hg⟩, h.apart⟩
def Mem4 (L : List (List Int)) : Prop := ∀ l ∈ L, l.length = 4 ∧ ∀ x ∈ l, 0 ≤ x ∧ x ≤ 99
def MemOut (w : World) (S g N : Nat) (e : Ending) (w' : World) : Prop := ∃ (G : Option Addr) (cc : Nat) (L : List (List Int)) (vs : List Value), e = .returned (.slice G N cc) ∧ Mem4 L ∧ OwnMx w' w.heap.size G N cc L vs ∧ Cur w' S g ∧ w.grownBy w' (some g)
theorem l04Mem_c (S g N : Nat) (w : World) (hc : Cur w S g) (hsg : S ≤ g) (hN : N ≤ 100) : Calls Try.prog 77 #[.pointer (some ⟨g, 0, none⟩), .int .i64 N] w (MemOut w S g N) := by
  obtain ⟨i0, hi, hz0, hz1, hz2⟩ := info_parts info_ints
  have hlt := hc.lt
  have g1 := grown_alloc (World.grownBy.refl w (some g)) (.cells #[] 22)
  have HC := Lib.hid (hc.below ((Below.refl _ _).alloc (Nat.le_refl _) (.cells #[] 22)))
  have HL := Lib.hid (OwnMx.none_ w w.heap.size (Nat.le_refl _))
  clear hc
  go_enter Try.func77, Try.ntmps77
  go_wp2
  go_loopw [5, 6] (fun v i wr => ∃ (k : Nat) (G : Option Addr) (cc : Nat) (L : List (List Int)) (vs : List Value), k ≤ N ∧ i = .int .i64 k ∧ v = .slice G k cc ∧ Hid (Mem4 L) ∧ OwnMx wr w.heap.size G k cc L vs ∧ Cur wr S g ∧ w.grownBy wr (some g)) (fun _ i _ => N - (intOf i).toNat)
  case atStart => exact ⟨0, _, _, [], [], by omega, rfl, rfl, Lib.hid (by simp [Mem4]), HL.out, HC.out, g1⟩
  case round =>
    obtain ⟨k, G, cc, L, vs, hk, rfl, rfl, HR, hown, hcur, hgr⟩ := hrel
    clear HC HL g1
    by_cases hltN : k < N
    · go_wp2_with fail
      refine (l04Page_c S g wr hcur hsg).mono ?_
      rintro e w2 ⟨A2, c2, l, rfl, hl4, hlr, O2, hc2, g2⟩
      have hown2 := hown.cur hcur g2
      have hgr2 := grown_trans hgr g2
      have hfr := hown.fresh O2 (Nat.le_refl _)
      replace O2 := own_base O2 hgr.size
      clear hown hcur g2 hgr
      go_wp2_with (at_builtin; refine wpList_append_own _ rfl _ _ 26 rfl w.heap.size 22 i0 (.slice none 0 0) 1 24 Try.underlying26 hi hz0 hz1 hz2 rfl (by decide) (.slice G k cc) k vs rfl (hown2.row.alloc _) ⟨w2.heap.size, 0, none⟩ 1 1 [.slice A2 4 c2] rfl rfl (new_one w2 #[.slice A2 4 c2] _) ?c2 ?c3 ?c4 ?c5 ?_)
      case c2 => first | rfl | (intro u hu; simp at hu; subst hu; rfl)
      case c3 => unfold maxLen; omega
      case c4 => omega
      case c5 => have := hgr2.size; simp; omega
      intro v' w3 hown3 hgr3 _
      have hgr4 := grown_own (grown_alloc hgr2 _) (hown2.row.alloc _) (Nat.le_refl _) hgr3
      have hc3 := (hc2.below ((Below.refl _ _).alloc (Nat.le_refl _) (.cells #[.slice A2 4 c2] 22))).own (hown2.row.alloc _) (by decide) (by omega) hgr3
      obtain ⟨G', cc', rfl⟩ := own_shape hown3
      rw [← hl4] at O2 hfr hown3 hgr3
      have HP := Lib.hid (hown2.pushed l _ _ O2 hfr hown3 hgr3)
      clear hown3 hgr3 hown2 O2 hfr hgr2
      go_wp2
      go_roundw
      case rel =>
        refine ⟨k + 1, G', cc', L ++ [l], vs ++ [.slice A2 l.length c2], by omega, by go_num, rfl, Lib.hid ?_, HP.out, hc3, hgr4⟩
        intro z hz
        rcases List.mem_append.mp hz with hz | hz
        · exact HR.out z hz
        · simp at hz; subst hz; exact ⟨hl4, hlr⟩
      case measure => simp [intOf]; omega
    · obtain rfl : k = N := by omega
      go_wp2
      go_ret
      exact ⟨G, cc, L, vs, rfl, HR.out, hown, hcur, hgr⟩
end Go.Proofs.Ytjgphiialfhdlaa
