/- Contracts of Hex. Condition: the text holds at most 1048576 bytes. -/
import Derived.Test.YthieianmlfejgaaDoorApp
import Derived.Test.YthieianmlfejgaaDoorPure
import Derived.Test.YthieianmlfejgaaDoorChecked
import Derived.WalkKit
import Derived.ProofKit
import Derived.Handy
import Derived.Outline
import Derived.Lib.Hide
import Derived.Test.YthieianmlfejgaaDoorAppAt
import Derived.Laws.IdiomStrings
import Derived.Laws.BytesArg
namespace Go.Proofs.YthieianmlfejgaaDoor
open Go.RowKit
set_option linter.unusedVariables false
set_option linter.unusedSimpArgs false
set_option maxHeartbeats 1000000

theorem info_byte : (Tryd.prog.info? 5).map (fun i => (i.zero, i.size, i.bytes)) = some (some (.int .u8 0), 1, 1) := by kernel_rfl
def bCells (l : List UInt8) : List Value := l.map fun b => Value.int .u8 (b.toNat : Int)
theorem bCells_append (l r : List UInt8) : bCells (l ++ r) = bCells l ++ bCells r := by simp [bCells]
theorem bCells_length (l : List UInt8) : (bCells l).length = l.length := by simp [bCells]
theorem conv_own {w : World} {base n c : Nat} {A : Option Addr} {l : List UInt8} (h : w.ownsRow base 5 1 (.slice A n c) n (bCells l)) :
    (convert 27 9 (.slice A n c)).run Tryd.prog w = .ok (.string ⟨l.toArray⟩) w := by
  have hl : l.length = n := by have := h.1; rw [bCells_length] at this; omega
  rcases h.2 with ⟨hv, h0⟩ | ⟨g, cap, cur, hv, _⟩
  · injection hv with hA _ _
    subst hA
    obtain rfl : l = [] := List.eq_nil_of_length_eq_zero (by omega)
    exact run_convert_bytes_nil _ 27 5 Tryd.underlying27 Tryd.underlying5 _ _ 9 Tryd.underlying9
  · injection hv with hA _ hc
    subst hA hc hl
    refine run_convert_bytes_back w _ _ 5 ⟨g, 0, none⟩ _ l Tryd.underlying27 Tryd.underlying5 Tryd.underlying9 fun j hj => ?_
    exact h.cells (g := g) rfl j _ (by simp [bCells, List.getElem?_eq_getElem hj])
def figB (n : Nat) : UInt8 := if n < 10 then UInt8.ofNat (48 + n) else UInt8.ofNat (87 + n)
def hexL (l : List UInt8) : List UInt8 := l.flatMap fun b => [figB (b.toNat / 16), figB (b.toNat % 16)]
theorem hexL_length (l : List UInt8) : (hexL l).length = 2 * l.length := by
  induction l with
  | nil => rfl
  | cons b l ih => simp [hexL] at ih ⊢; omega
theorem hexL_take (l : List UInt8) (k : Nat) (b : UInt8) (h : l[k]? = some b) : hexL (l.take (k + 1)) = hexL (l.take k) ++ [figB (b.toNat / 16), figB (b.toNat % 16)] := by
  rw [List.take_add_one, h]
  simp [hexL]
theorem figure_c (n : Nat) (hn : n < 16) (w : World) : Calls Tryd.prog 18 #[.int .i64 (n : Int)] w fun e w'' => e = .returned (.int .u8 ((figB n).toNat : Int)) ∧ w'' = w := by
  have : n = 0 ∨ n = 1 ∨ n = 2 ∨ n = 3 ∨ n = 4 ∨ n = 5 ∨ n = 6 ∨ n = 7 ∨ n = 8 ∨ n = 9 ∨ n = 10 ∨ n = 11 ∨ n = 12 ∨ n = 13 ∨ n = 14 ∨ n = 15 := by omega
  rcases this with rfl | rfl | rfl | rfl | rfl | rfl | rfl | rfl | rfl | rfl | rfl | rfl | rfl | rfl | rfl | rfl
  all_goals
    go_enter Tryd.func18, Tryd.ntmps18
    go_wp2
    go_ret
    exact ⟨rfl, rfl⟩
theorem and15 (n r : Nat) (h : n < 256) (hr : n % 16 = r) : bits BinOp.and IntKind.u8 (n : Int) 15 = (r : Int) := by
  subst hr
  have : ∀ j : Fin 256, bits BinOp.and IntKind.u8 ((j.val : Nat) : Int) 15 = ((j.val % 16 : Nat) : Int) := by decide +kernel
  exact this ⟨n, h⟩
theorem digits (n : Nat) (hn : n < 16) (h : n < (⟨#[48, 49, 50, 51, 52, 53, 54, 55, 56, 57, 97, 98, 99, 100, 101, 102]⟩ : ByteArray).size) : ((⟨#[48, 49, 50, 51, 52, 53, 54, 55, 56, 57, 97, 98, 99, 100, 101, 102]⟩ : ByteArray)[n]'h).toNat = (figB n).toNat := by
  have : n = 0 ∨ n = 1 ∨ n = 2 ∨ n = 3 ∨ n = 4 ∨ n = 5 ∨ n = 6 ∨ n = 7 ∨ n = 8 ∨ n = 9 ∨ n = 10 ∨ n = 11 ∨ n = 12 ∨ n = 13 ∨ n = 14 ∨ n = 15 := by omega
  rcases this with rfl | rfl | rfl | rfl | rfl | rfl | rfl | rfl | rfl | rfl | rfl | rfl | rfl | rfl | rfl | rfl <;> rfl
theorem iHex_1 (s : ByteArray) (w : World) (hs : s.size ≤ 20000) :
    Calls Tryd.prog 12 #[.string s] w fun e w' => e = .returned (.tuple #[.string ⟨(hexL s.data.toList).toArray⟩, .bool true]) ∧ Below w.heap.size w w' := by
  obtain ⟨i0, hi, hz0, hz1, hz2⟩ := info_parts info_byte
  go_enter Tryd.func12, Tryd.ntmps12
  go_wp2_with (at_make; refine wpList_make_own _ rfl _ _ 27 rfl w.heap.size 5 i0 (.int .u8 0) 1 Tryd.underlying27 hi hz0 hz1 .i64 .i64 _ (2 * s.size) rfl rfl (by push_cast; rfl) (by rw [hz2]; omega) (by simp only [maxLen]; omega) (Nat.le_refl _) ?_; intro w1 hown hgr; refine Hid.out ?_)
  refine Lib.hid ?_
  have hlit := Lib.hid hown
  have hb0 : Hid (Below w.heap.size w w1) := Lib.hid ((Below.refl _ _).grown hgr (Nat.le_refl _) (fun k hk => by cases hk))
  clear hown hgr
  go_wp2
  go_loopw [4, 5] (fun v i wr => ∃ (k : Nat) (G : Option Addr) (cc : Nat), k ≤ s.size ∧ i = .int .i64 k ∧ v = .slice G (2 * k) cc ∧ Hid (wr.ownsRow w.heap.size 5 1 (.slice G (2 * k) cc) (2 * k) (bCells (hexL (s.data.toList.take k)))) ∧ Hid (Below w.heap.size w wr)) (fun _ i _ => s.size - (intOf i).toNat)
  case atStart => exact ⟨0, _, _, by omega, rfl, rfl, hlit, hb0⟩
  case round =>
    obtain ⟨k, G, cc, hk, rfl, rfl, hown, hbel⟩ := hrel
    clear hlit hb0
    by_cases hlt : k < s.size
    · go_wp2_with fail
      have hb : s.data.toList[k]? = some s[k] := by rw [List.getElem?_eq_getElem (by simpa using hlt)]; rfl
      have HT := Lib.hid (hexL_take _ _ _ hb)
      have hlt8 := s[k].toNat_lt
      obtain ⟨q, hq⟩ : ∃ q, s[k].toNat / 16 = q := ⟨_, rfl⟩
      obtain ⟨r, hr⟩ : ∃ r, s[k].toNat % 16 = r := ⟨_, rfl⟩
      rw [hq, hr] at HT
      have hq16 : q < 16 := by omega
      have hr16 : r < 16 := by omega
      have h1 : (s[k].toNat : Int) / 16 = (q : Int) := by omega
      have h2 : bits BinOp.and IntKind.u8 (s[k].toNat : Int) 15 = (r : Int) := and15 _ _ hlt8 hr
      have h3 : (q : Int) < 16 := by omega
      have h4 : (r : Int) < 16 := by omega
      have h5 := digits q hq16
      have h6 := digits r hr16
      have ownD : Hid (wr.drew.ownsRow w.heap.size 5 1 (.slice G (2 * k) cc) (2 * k) (bCells (hexL (s.data.toList.take k)))) := Lib.hid hown.out
      have hsz := hbel.out.size
      clear hb hq hr hlt8
      go_region_law (refine step_append_at (o := ⟨some 31, _, _, _, _, _⟩) rfl (.tmp 19) (.tmp 30) 27 rfl w.heap.size 5 i0 (.int .u8 0) 1 1 Tryd.underlying27 hi hz0 hz1 hz2 rfl (by decide) (.slice G (2 * k) cc) (2 * k) _ (by simp [Act.eval, Act.put]) (ownD.out.alloc _) ⟨wr.heap.size, 0, none⟩ 2 2 [.int .u8 ((figB q).toNat : Int), .int .u8 ((figB r).toNat : Int)] (by simp [Act.eval, Act.put]) rfl (new_one wr.drew #[.int .u8 ((figB q).toNat : Int), .int .u8 ((figB r).toNat : Int)] _) (by intro u hu; simp at hu; rcases hu with rfl | rfl <;> rfl) (by unfold maxLen; omega) (by omega) (by simp; omega) ?_; intro v' w3 hown3)
      all_goals
        obtain ⟨hown3, hgr3, hblk⟩ := hown3
        have hbl3 := Lib.hid (below_grown (hbel.out.drew.alloc (by simpa using hsz) _) (ownD.out.alloc _) (Nat.le_refl _) hgr3)
        obtain ⟨G', cc', rfl⟩ := own_shape hown3
        have HO : Hid (w3.ownsRow w.heap.size 5 1 (.slice G' (2 * k + 2) cc') (2 * k + 2) (bCells (hexL (s.data.toList.take (k + 1))))) := Lib.hid (by rw [HT.out, bCells_append]; exact hown3)
        clear hown3 hgr3 hblk ownD hown hbel HT
        go_simp
        go_wp2
        go_roundw
        case rel => exact ⟨k + 1, G', cc', by omega, by go_num, rfl, HO, hbl3⟩
        case measure => simp [intOf]; omega
    · obtain rfl : s.size = k := by omega
      have hconv := conv_own hown.out
      have e : s.data.toList.take s.size = s.data.toList := List.take_of_length_le (by simp)
      rw [e] at hconv
      have HB := Lib.hid hbel.out
      clear hown hbel
      go_wp2
      go_returns
      exact ⟨rfl, HB.out⟩
theorem iHex_2 (s : ByteArray) (w : World) (hs : 20000 < s.size) (hm : s.size ≤ 1048576) :
    Calls Tryd.prog 12 #[.string s] w fun e w' => e = .returned (.tuple #[.string ⟨#[]⟩, .bool false]) ∧ Below w.heap.size w w' := by
  go_enter Tryd.func12, Tryd.ntmps12
  go_wp2
  go_returns
  exact ⟨rfl, Below.refl _ _⟩
end Go.Proofs.YthieianmlfejgaaDoor
