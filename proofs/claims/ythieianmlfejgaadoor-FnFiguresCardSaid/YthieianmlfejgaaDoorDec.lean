/- Contracts of the functions that spell a number in decimal digits: the laws' own markText, the reference's Decimal. -/
import Derived.Test.YthieianmlfejgaaDoorHex
import Derived.Lib.ItoaNum
namespace Go.Proofs.YthieianmlfejgaaDoor
open Go.RowKit
set_option linter.unusedVariables false
set_option linter.unusedSimpArgs false
set_option maxHeartbeats 1000000

/-- The digits of u; none for 0. -/
def dd (u : Nat) : List UInt8 := if u = 0 then [] else Lib.decDigits u
theorem dd_step (u : Nat) (h : 0 < u) : dd u = dd (u / 10) ++ [UInt8.ofNat (48 + u % 10)] := by
  unfold dd
  rw [if_neg (by omega)]
  by_cases h10 : u < 10
  · rw [if_pos (by omega), Lib.decDigits, dif_pos h10, Nat.mod_eq_of_lt h10]
    rfl
  · rw [if_neg (by omega), Lib.decDigits, dif_neg h10]
theorem str_append (a b : List UInt8) : ((⟨a.toArray⟩ : ByteArray) ++ ⟨b.toArray⟩) = ⟨(a ++ b).toArray⟩ := by
  apply ByteArray.ext
  simp
theorem byte_digit (r : Nat) (h : r < 10) : ((UInt8.ofNat (48 + r)).toNat : Int) = 48 + (r : Int) := by simp; omega
theorem dd_len (u : Nat) : (dd u).length ≤ u := by
  induction u using Nat.strongRecOn with
  | _ u ih =>
    by_cases h : 0 < u
    · rw [dd_step u h, List.length_append, List.length_singleton]
      have := ih (u / 10) (by omega)
      omega
    · obtain rfl : u = 0 := by omega
      simp [dd]
def strOf (l : List UInt8) : Value := .string ⟨l.toArray⟩
/-- The numeral of a number, as the reference spells it. -/
theorem itoa_dd (n : Int) : Lib.itoa n = if n = 0 then [48] else if n < 0 then 45 :: dd n.natAbs else dd n.natAbs := by
  unfold Lib.itoa dd
  by_cases h0 : n = 0
  · subst h0
    rw [if_neg (by omega), if_pos rfl, Lib.decDigits, dif_pos (by decide)]
    rfl
  · rw [if_neg h0, if_neg (by omega : ¬ n.natAbs = 0)]
    by_cases hn : n < 0
    · rw [if_pos hn, if_pos hn]
    · rw [if_neg hn, if_neg hn]
      congr 1
      omega
theorem figB_digit (r : Nat) (h : r < 10) : figB r = UInt8.ofNat (48 + r) := by
  have : r = 0 ∨ r = 1 ∨ r = 2 ∨ r = 3 ∨ r = 4 ∨ r = 5 ∨ r = 6 ∨ r = 7 ∨ r = 8 ∨ r = 9 := by omega
  rcases this with rfl | rfl | rfl | rfl | rfl | rfl | rfl | rfl | rfl | rfl <;> rfl
theorem sDecimal_pos (N : Nat) (hN : 0 < N) (hN2 : N ≤ 9223372036854775807) (w : World) : Calls Tryd.prog 8 #[.int .i64 ((N : Int))] w fun e w' => e = .returned (.string ⟨(dd N).toArray⟩) ∧ Below w.heap.size w w' := by
  have hb0 : (((N : Int)) == (0 : Int)) = false := by simp; omega
  have hlt0 : ¬ (N : Int) < 0 := by omega
  go_enter Tryd.func8, Tryd.ntmps8
  go_wp2
  go_loopw [4, 0] (fun s n wr => ∃ (u : Nat) (o : List UInt8), 2 * o.length + u ≤ N + 2 ∧ (0 < u → 2 * o.length + u ≤ N + 1) ∧ n = .int .i64 ((u : Int)) ∧ s = strOf o ∧ Hid (dd u ++ o = dd N) ∧ Hid (Below w.heap.size w wr)) (fun _ n _ => (intOf n).natAbs)
  case atStart => exact ⟨N, [], by simp, by simp, rfl, rfl, Lib.hid (by simp), Lib.hid (Below.refl _ _)⟩
  case round =>
    obtain ⟨u, o, hu, hu1, rfl, rfl, HD, HB⟩ := hrel
    unfold strOf
    have hsz0 : ({ data := o.toArray } : ByteArray).size = o.length := by simp [ByteArray.size]
    by_cases h0 : 0 < u
    · have hu2 := hu1 h0
      have hst := dd_step u h0
      have hu0 : (((u : Int)) == (0 : Int)) = false := by simp; omega
      obtain ⟨r, hr⟩ : ∃ r, u % 10 = r := ⟨_, rfl⟩
      obtain ⟨q, hq⟩ : ∃ q, u / 10 = q := ⟨_, rfl⟩
      have hr10 : r < 10 := by omega
      have hr16 : r < 16 := by omega
      have hqu : q < u := by omega
      have hl60 : o.length ≤ 4611686018427387905 := by omega
      have hq2 : 2 * (o.length + 1) + q ≤ N + 2 := by omega
      have hq3 : 0 < q → 2 * (o.length + 1) + q ≤ N + 1 := by omega
      have h1 : ((u : Int)).tmod 10 = (r : Int) := by rw [Int.tmod_eq_emod_of_nonneg (by omega)]; omega
      have h2 : ((u : Int)).tdiv 10 = (q : Int) := by rw [Int.tdiv_eq_ediv_of_nonneg (by omega)]; omega
      have w1 : IntKind.i64.wrap ((r : Int)) = (r : Int) := IntWalk.i64_in _ (by omega)
      have w2 : IntKind.i64.wrap ((q : Int)) = (q : Int) := IntWalk.i64_in _ (by omega)
      obtain ⟨c, hc⟩ : ∃ c, figB r = c := ⟨_, rfl⟩
      have hfd := figB_digit r hr10
      rw [hc] at hfd
      have hfig : ∀ W, Calls Tryd.prog 18 #[.int .i64 (r : Int)] W fun e w'' => e = .returned (.int .u8 (c.toNat : Int)) ∧ w'' = W := fun W => hc ▸ figure_c r hr16 W
      rw [hq, hr, ← hfd] at hst
      have HS : Hid (dd q ++ ([c] ++ o) = dd N) := Lib.hid (by rw [← HD.out, hst, List.append_assoc])
      have HF := Lib.hid hfig
      have hsz := HB.out.size
      have hlit := World.ownsRow_lit (base := wr.heap.size) (e := 5) (size := 1) wr #[.int .u8 (c.toNat : Int)] 1 (Nat.le_refl _) (by unfold maxLen; omega) (by simp)
      have hown : (wr.alloc (.cells #[.int .u8 (c.toNat : Int)] 5)).ownsRow wr.heap.size 5 1 (.slice (some ⟨wr.heap.size, 0, none⟩) 1 1) 1 (bCells [c]) := hlit
      have hconv := conv_own hown
      have hcat := str_append [c] o
      have hb2 := Lib.hid ((HB.out).alloc hsz (.cells #[.int .u8 (c.toNat : Int)] 5))
      clear hst hr hq hlit hown HD HB hc hfd hfig hu hu1 hu2
      have hneg : ¬ (r : Int) < 0 := by omega
      go_wp2_with (go_at_call 18; refine (HF.out _).mono ?_; rintro e w' ⟨rfl, rfl⟩)
      go_roundw
      case rel => exact ⟨q, [c] ++ o, by simp; omega, by simpa using hq3, by go_num, by first | rfl | (show Value.string _ = Value.string _; rw [hcat]; rfl) | (simp only [strOf]; rw [hcat]; done) | (simp only [strOf]; rw [← hcat]; done), HS, hb2⟩
      case measure => simp [intOf]; omega
    · obtain rfl : u = 0 := by omega
      have hd : o = dd N := by simpa [dd] using HD.out
      subst hd
      clear HD
      go_wp2
      go_ret
      exact ⟨rfl, HB.out⟩
theorem sDecimal_neg (N : Nat) (hN : 0 < N) (hN2 : N ≤ 9223372036854775808) (w : World) : Calls Tryd.prog 8 #[.int .i64 (-(N : Int))] w fun e w' => e = .returned (.string ⟨(45 :: dd N).toArray⟩) ∧ Below w.heap.size w w' := by
  have hb0 : ((-(N : Int)) == (0 : Int)) = false := by simp; omega
  have hlt0 : (-(N : Int)) < 0 := by omega
  go_enter Tryd.func8, Tryd.ntmps8
  go_wp2
  go_loopw [4, 0] (fun s n wr => ∃ (u : Nat) (o : List UInt8), 2 * o.length + u ≤ N + 2 ∧ (0 < u → 2 * o.length + u ≤ N + 1) ∧ n = .int .i64 (-(u : Int)) ∧ s = strOf o ∧ Hid (dd u ++ o = dd N) ∧ Hid (Below w.heap.size w wr)) (fun _ n _ => (intOf n).natAbs)
  case atStart => exact ⟨N, [], by simp, by simp, rfl, rfl, Lib.hid (by simp), Lib.hid (Below.refl _ _)⟩
  case round =>
    obtain ⟨u, o, hu, hu1, rfl, rfl, HD, HB⟩ := hrel
    unfold strOf
    have hsz0 : ({ data := o.toArray } : ByteArray).size = o.length := by simp [ByteArray.size]
    by_cases h0 : 0 < u
    · have hu2 := hu1 h0
      have hst := dd_step u h0
      have hu0 : ((-(u : Int)) == (0 : Int)) = false := by simp; omega
      obtain ⟨r, hr⟩ : ∃ r, u % 10 = r := ⟨_, rfl⟩
      obtain ⟨q, hq⟩ : ∃ q, u / 10 = q := ⟨_, rfl⟩
      have hr10 : r < 10 := by omega
      have hr16 : r < 16 := by omega
      have hqu : q < u := by omega
      have hl60 : o.length ≤ 4611686018427387905 := by omega
      have hq2 : 2 * (o.length + 1) + q ≤ N + 2 := by omega
      have hq3 : 0 < q → 2 * (o.length + 1) + q ≤ N + 1 := by omega
      have h1 : (-(u : Int)).tmod 10 = -(r : Int) := by rw [Int.neg_tmod, Int.tmod_eq_emod_of_nonneg (by omega)]; omega
      have h2 : (-(u : Int)).tdiv 10 = -(q : Int) := by rw [Int.neg_tdiv, Int.tdiv_eq_ediv_of_nonneg (by omega)]; omega
      have w1 : IntKind.i64.wrap (-(r : Int)) = -(r : Int) := IntWalk.i64_in _ (by omega)
      have w2 : IntKind.i64.wrap (-(q : Int)) = -(q : Int) := IntWalk.i64_in _ (by omega)
      obtain ⟨c, hc⟩ : ∃ c, figB r = c := ⟨_, rfl⟩
      have hfd := figB_digit r hr10
      rw [hc] at hfd
      have hfig : ∀ W, Calls Tryd.prog 18 #[.int .i64 (r : Int)] W fun e w'' => e = .returned (.int .u8 (c.toNat : Int)) ∧ w'' = W := fun W => hc ▸ figure_c r hr16 W
      rw [hq, hr, ← hfd] at hst
      have HS : Hid (dd q ++ ([c] ++ o) = dd N) := Lib.hid (by rw [← HD.out, hst, List.append_assoc])
      have HF := Lib.hid hfig
      have hsz := HB.out.size
      have hlit := World.ownsRow_lit (base := wr.heap.size) (e := 5) (size := 1) wr #[.int .u8 (c.toNat : Int)] 1 (Nat.le_refl _) (by unfold maxLen; omega) (by simp)
      have hown : (wr.alloc (.cells #[.int .u8 (c.toNat : Int)] 5)).ownsRow wr.heap.size 5 1 (.slice (some ⟨wr.heap.size, 0, none⟩) 1 1) 1 (bCells [c]) := hlit
      have hconv := conv_own hown
      have hcat := str_append [c] o
      have hb2 := Lib.hid ((HB.out).alloc hsz (.cells #[.int .u8 (c.toNat : Int)] 5))
      clear hst hr hq hlit hown HD HB hc hfd hfig hu hu1 hu2
      by_cases hr0 : r = 0
      · subst hr0
        go_wp2_with (go_at_call 18; refine (HF.out _).mono ?_; rintro e w' ⟨rfl, rfl⟩)
        go_roundw
        case rel => exact ⟨q, [c] ++ o, by simp; omega, by simpa using hq3, by go_num, by first | rfl | (show Value.string _ = Value.string _; rw [hcat]; rfl) | (simp only [strOf]; rw [hcat]; done) | (simp only [strOf]; rw [← hcat]; done), HS, hb2⟩
        case measure => simp [intOf]; omega
      · have hneg : (-(r : Int)) < 0 := by omega
        go_wp2_with (go_at_call 18; refine (HF.out _).mono ?_; rintro e w' ⟨rfl, rfl⟩)
        go_roundw
        case rel => exact ⟨q, [c] ++ o, by simp; omega, by simpa using hq3, by go_num, by first | rfl | (show Value.string _ = Value.string _; rw [hcat]; rfl) | (simp only [strOf]; rw [hcat]; done) | (simp only [strOf]; rw [← hcat]; done), HS, hb2⟩
        case measure => simp [intOf]; omega
    · obtain rfl : u = 0 := by omega
      have hd : o = dd N := by simpa [dd] using HD.out
      subst hd
      have hcat := str_append [45] (dd N)
      have hl60 : (dd N).length ≤ 4611686018427387905 := by omega
      clear HD
      go_wp2
      go_ret
      exact ⟨by first | rfl | (simp only [strOf]; rw [← hcat]; rfl), HB.out⟩
theorem sDecimal_c (n : Int) (h0 : -9223372036854775808 ≤ n) (h1 : n ≤ 9223372036854775807) (w : World) : Calls Tryd.prog 8 #[.int .i64 n] w fun e w' => e = .returned (.string ⟨(Lib.itoa n).toArray⟩) ∧ Below w.heap.size w w' := by
  rw [itoa_dd]
  by_cases hz : n = 0
  · subst hz
    go_enter Tryd.func8, Tryd.ntmps8
    go_wp2
    go_ret
    exact ⟨rfl, Below.refl _ _⟩
  rw [if_neg hz]
  by_cases hn : n < 0
  · rw [if_pos hn]
    have h := sDecimal_neg n.natAbs (by omega) (by omega) w
    rwa [show -((n.natAbs : Nat) : Int) = n by omega] at h
  · rw [if_neg hn]
    have h := sDecimal_pos n.natAbs (by omega) (by omega) w
    rwa [show ((n.natAbs : Nat) : Int) = n by omega] at h
end Go.Proofs.YthieianmlfejgaaDoor
