/- Contracts of the functions that spell a number in decimal digits: the laws' own markText, the reference's Decimal. -/
import Derived.Test.YthieianmlfejgaaHex
import Derived.Lib.ItoaNum
namespace Go.Proofs.Ythieianmlfejgaa
open Go.RowKit
set_option linter.unusedVariables false
set_option linter.unusedSimpArgs false
set_option maxHeartbeats 1000000

/-- The digits of u; none for 0. -/
def dd (u : Nat) : List UInt8 := if u = 0 then [] else Lib.decDigits u
theorem dd_step (u : Nat) (h : 0 < u) : dd u = dd (u / 10) ++ [UInt8.ofNat (48 + u % 10)] := by
  unfold dd
  rw [if_neg (by omega)]
  by_cases h10 : u < 10
  · rw [if_pos (by omega), Lib.decDigits, dif_pos h10, Nat.mod_eq_of_lt h10]
    rfl
  · rw [if_neg (by omega), Lib.decDigits, dif_neg h10]
theorem str_append (a b : List UInt8) : ((⟨a.toArray⟩ : ByteArray) ++ ⟨b.toArray⟩) = ⟨(a ++ b).toArray⟩ := by
  apply ByteArray.ext
  simp
theorem byte_digit (r : Nat) (h : r < 10) : ((UInt8.ofNat (48 + r)).toNat : Int) = 48 + (r : Int) := by simp; omega
theorem dd_len (u : Nat) : (dd u).length ≤ u := by
  induction u using Nat.strongRecOn with
  | _ u ih =>
    by_cases h : 0 < u
    · rw [dd_step u h, List.length_append, List.length_singleton]
      have := ih (u / 10) (by omega)
      omega
    · obtain rfl : u = 0 := by omega
      simp [dd]
def strOf (l : List UInt8) : Value := .string ⟨l.toArray⟩
theorem markText_c (k : Nat) (hk : 0 < k) (hk2 : k ≤ 4611686018427387904) (w : World) : Calls Try.prog 37 #[.int .i64 (k : Int)] w fun e w' => e = .returned (.string ⟨(109 :: dd k).toArray⟩) ∧ Below w.heap.size w w' := by
  go_enter Try.func37, Try.ntmps37
  go_wp2
  go_loopw [3, 0] (fun s n wr => ∃ (u : Nat) (o : List UInt8), o.length + u ≤ k ∧ n = .int .i64 (u : Int) ∧ s = strOf o ∧ Hid (dd u ++ o = dd k) ∧ Hid (Below w.heap.size w wr)) (fun _ n _ => (intOf n).toNat)
  case atStart => exact ⟨k, [], by simp, rfl, rfl, Lib.hid (by simp), Lib.hid (Below.refl _ _)⟩
  case round =>
    obtain ⟨u, o, hu, rfl, rfl, HD, HB⟩ := hrel
    unfold strOf
    have hsz0 : ({ data := o.toArray } : ByteArray).size = o.length := by simp [ByteArray.size]
    by_cases h0 : 0 < u
    · have hst := dd_step u h0
      obtain ⟨r, hr⟩ : ∃ r, u % 10 = r := ⟨_, rfl⟩
      obtain ⟨q, hq⟩ : ∃ q, u / 10 = q := ⟨_, rfl⟩
      have hr10 : r < 10 := by omega
      have hqu : q < u := by omega
      have h1 : (u : Int).tmod 10 = (r : Int) := by rw [Int.tmod_eq_emod_of_nonneg (by omega)]; omega
      have h2 : (u : Int).tdiv 10 = (q : Int) := by rw [Int.tdiv_eq_ediv_of_nonneg (by omega)]; omega
      obtain ⟨c, hc⟩ : ∃ c, UInt8.ofNat (48 + r) = c := ⟨_, rfl⟩
      have hc8 := byte_digit r hr10
      rw [hc] at hc8
      rw [hq, hr, hc] at hst
      have HS : Hid (dd q ++ ([c] ++ o) = dd k) := Lib.hid (by rw [← HD.out, hst, List.append_assoc])
      have hsz := HB.out.size
      have hlit := World.ownsRow_lit (base := wr.heap.size) (e := 5) (size := 1) wr #[.int .u8 (48 + (r : Int))] 1 (Nat.le_refl _) (by unfold maxLen; omega) (by simp)
      have hown : (wr.alloc (.cells #[.int .u8 (48 + (r : Int))] 5)).ownsRow wr.heap.size 5 1 (.slice (some ⟨wr.heap.size, 0, none⟩) 1 1) 1 (bCells [c]) := by
        have e : bCells [c] = [.int .u8 (48 + (r : Int))] := by simp only [bCells, List.map_cons, List.map_nil, hc8]
        rw [e]
        exact hlit
      have hconv := conv_own hown
      have hcat := str_append [c] o
      have hb2 := Lib.hid ((HB.out).alloc hsz (.cells #[.int .u8 (48 + (r : Int))] 5))
      clear hst hr hq hlit hown HD HB hc hc8
      go_wp2
      go_roundw
      case rel => exact ⟨q, [c] ++ o, by simp; omega, by go_num, by first | rfl | (show Value.string _ = Value.string _; rw [hcat]; rfl) | (simp only [strOf]; rw [hcat]; done) | (simp only [strOf]; rw [← hcat]; done), HS, hb2⟩
      case measure => simp [intOf]; omega
    · obtain rfl : u = 0 := by omega
      have hd : o = dd k := by simpa [dd] using HD.out
      subst hd
      have hcat := str_append [109] (dd k)
      clear HD
      go_wp2
      go_ret
      exact ⟨by first | rfl | (simp only [strOf]; rw [← hcat]; rfl), HB.out⟩
end Go.Proofs.Ythieianmlfejgaa
