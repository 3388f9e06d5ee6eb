/- Plain laws of figures: what Hex writes Unhex reads, what Decimal writes ReadDecimal reads, what is brought between stays. No condition. -/
import Derived.Test.YthieianmlfejgaaDoorReadD
import Derived.Test.YthieianmlfejgaaDoorUnhex
import Derived.Test.YthieianmlfejgaaDoorInt
namespace Go.Proofs.YthieianmlfejgaaDoor
open Go.RowKit
set_option linter.unusedVariables false
set_option linter.unusedSimpArgs false

theorem nib_fig (q : Nat) (h : q < 16) : nib (figB q) = (q : Int) := by
  have : q = 0 ∨ q = 1 ∨ q = 2 ∨ q = 3 ∨ q = 4 ∨ q = 5 ∨ q = 6 ∨ q = 7 ∨ q = 8 ∨ q = 9 ∨ q = 10 ∨ q = 11 ∨ q = 12 ∨ q = 13 ∨ q = 14 ∨ q = 15 := by omega
  rcases this with rfl | rfl | rfl | rfl | rfl | rfl | rfl | rfl | rfl | rfl | rfl | rfl | rfl | rfl | rfl | rfl <;> decide
theorem unhex_hex (l : List UInt8) : unhexL (hexL l) = some l := by
  induction l with
  | nil => rfl
  | cons b r ih =>
    have e : hexL (b :: r) = figB (b.toNat / 16) :: figB (b.toNat % 16) :: hexL r := rfl
    have hb := b.toNat_lt
    rw [e, unhexL, ih, nib_fig _ (by omega), nib_fig _ (by omega), if_neg (by omega)]
    have hv : (16 * ((b.toNat / 16 : Nat) : Int) + ((b.toNat % 16 : Nat) : Int)).toNat = b.toNat := by omega
    simp only [Option.map_some, hv, UInt8.ofNat_toNat]
theorem decFrom_append (r : List UInt8) : ∀ (l : List UInt8) (acc : Nat), Lib.decFrom acc (l ++ r) = (Lib.decFrom acc l).bind fun a => Lib.decFrom a r
  | [], acc => by simp [Lib.decFrom]
  | b :: l, acc => by
    simp only [List.cons_append, Lib.decFrom]
    cases Lib.digitVal b with
    | none => rfl
    | some d => exact decFrom_append r l _
theorem digit_val (r : Nat) (h : r < 10) : Lib.digitVal (UInt8.ofNat (48 + r)) = some r := by
  have : r = 0 ∨ r = 1 ∨ r = 2 ∨ r = 3 ∨ r = 4 ∨ r = 5 ∨ r = 6 ∨ r = 7 ∨ r = 8 ∨ r = 9 := by omega
  rcases this with rfl | rfl | rfl | rfl | rfl | rfl | rfl | rfl | rfl | rfl <;> decide
theorem dec_read (u : Nat) : Lib.decFrom 0 (Lib.decDigits u) = some u := by
  induction u using Nat.strongRecOn with
  | _ u ih =>
    rw [Lib.decDigits]
    split
    · rename_i h
      simp only [Lib.decFrom, digit_val u h]
      simp
    · rename_i h
      rw [decFrom_append, ih (u / 10) (by omega)]
      simp only [Option.bind_some, Lib.decFrom, digit_val _ (show u % 10 < 10 by omega)]
      congr 1
      omega
theorem digits_len (u : Nat) (h : u ≤ 1000000000) : (Lib.decDigits u).length ≤ 10 := by
  rw [Lib.decDigits_length]
  have key : ∀ (k u : Nat), u < 10 ^ k → 1 ≤ k → Lib.nDigits u ≤ k := by
    intro k
    induction k with
    | zero => intro u _ h; omega
    | succ k ih =>
      intro u hu _
      by_cases h10 : u < 10
      · rw [Lib.nDigits_small h10]; omega
      · rw [Lib.nDigits_big h10]
        rw [Nat.pow_succ] at hu
        by_cases hk : k = 0
        · subst hk; simp at hu; omega
        · have := ih (u / 10) (by omega) (by omega)
          omega
  exact key 10 u (by omega) (by omega)
theorem read_dec (u : Nat) (h : u ≤ 1000000000) : readDec (Lib.itoa (u : Int)) = some (u : Int) := by
  rw [itoa_nat, readDec_of (digits_len u h) (dec_read u), if_pos ⟨h, itoa_nat u⟩]
theorem brought_law (n a b : Int) (h : a ≤ b) : a ≤ brought n a b ∧ brought n a b ≤ b ∧ brought (brought n a b) a b = brought n a b := by
  unfold brought
  split <;> split <;> (try split) <;> (try split) <;> omega
end Go.Proofs.YthieianmlfejgaaDoor
