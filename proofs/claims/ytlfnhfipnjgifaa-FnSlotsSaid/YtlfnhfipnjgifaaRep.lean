/- Contracts of TableNew: the program's slices.Repeat of one slot, the reference's loop. No condition. -/
import Derived.Test.YtlfnhfipnjgifaaWith
import Derived.Test.YtlfnhfipnjgifaaInt
import Derived.Test.YtlfnhfipnjgifaaSlot
import Derived.Laws.CopyOwn
import Derived.Deep.RegionLaw
namespace Go.Proofs.Ytlfnhfipnjgifaa
open Go.RowKit
set_option linter.unusedVariables false
set_option linter.unusedSimpArgs false
set_option maxHeartbeats 1000000
set_option maxRecDepth 20000

theorem and32 (k : Nat) (hk : k ≤ 24) : bits BinOp.and IntKind.u64 (k : Int) 4294967295 = k := by
  have : ∀ j : Fin 25, bits BinOp.and IntKind.u64 ((j.val : Nat) : Int) 4294967295 = (j.val : Nat) := by decide
  exact this ⟨k, by omega⟩
theorem and1 : bits BinOp.and IntKind.u64 1 4294967295 = 1 := by decide
theorem and0 : bits BinOp.and IntKind.u64 0 4294967295 = 0 := by decide
theorem mul64_c (k : Nat) (hk : k ≤ 24) (w : World) : Calls Try.prog 130 #[.int .u64 1, .int .u64 k] w fun e w' => e = .returned (.tuple #[.int .u64 0, .int .u64 k]) ∧ w = w' := by
  have h1 := and32 k hk
  have h2 := and1
  have h3 := and0
  have h4 : (k : Int) / 4294967296 = 0 := by omega
  go_enter Try.func130, Try.ntmps130
  go_wp2
  go_returns
  exact ⟨rfl, rfl⟩
theorem mul_c (k : Nat) (hk : k ≤ 24) (w : World) : Calls Try.prog 124 #[.int .u64 1, .int .u64 k] w fun e w' => e = .returned (.tuple #[.int .u64 0, .int .u64 k]) ∧ w = w' := by
  go_enter Try.func124, Try.ntmps124
  go_wp2_with (go_at_call 130; refine (mul64_c k hk _).mono ?_; rintro e w' ⟨rfl, rfl⟩)
  go_returns
  exact ⟨rfl, rfl⟩

theorem run_copy_N {P : Program} (w : World) (dT sT ty elem : TypeId) (size g o dLen dCap : Nat) (a : Addr) (sLen sCap m : Nat) (cur : Array Value) (t : TypeId) (cs : List Value)
    (hu : P.underlying dT = some (.slice elem)) (hs : (P.info? elem).map (·.size) = some size)
    (hg : w.heap[g]? = some (.cells cur t (0, 0))) (hm : Nat.min sLen dLen = m) (hn : cs.length = m * size)
    (hsrc : ∀ j v, cs[j]? = some v → w.cell? (a.add j) = some v) (hfit : o + cs.length ≤ cur.size) (h1 : ∀ v ∈ cs, v.oneCell' = true) :
    (Builtin.copy_ #[dT, sT] ty #[.slice (some ⟨g, o, none⟩) dLen dCap, .slice (some a) sLen sCap]).run P w =
      .ok (goInt m) (w.setRow g (cur.toList.take o ++ cs ++ cur.toList.drop (o + cs.length)).toArray) := by
  have hl := run_loadCells_list (P := P) w a cs hsrc
  have hst := run_storeCells_at P g o t cs 0 cur w hg (by simpa using hfit) h1
  rw [hn] at hl
  cases hq : P.info? elem with
  | none => simp [hq] at hs
  | some i =>
    have hi : i.size = size := by simpa [hq] using hs
    simp [Builtin.copy_, run_underlying hu, Builtin.lenOf, Builtin.firstCells, sizeOf, typeInfo, hq, hi, hm, hl, hst]
theorem wpList_copy_N {P : Program} {w : World} {ops : Array Oper} {rest : List Oper} {o : Oper} {a : Act} {Q : Exit → Act → World → Prop} (hgd : o.guard = none) (d s : Operand) (dT sT : TypeId)
    (ho : o.op = .call { callee := .builtin .copy, args := #[d, s], argTypes := #[dT, sT] }) (elem : TypeId) (size : Nat) (hu : P.underlying dT = some (.slice elem)) (hsz : (P.info? elem).map (·.size) = some size)
    (g off dLen dCap : Nat) (ad : Addr) (sLen sCap m : Nat) (hd : a.eval d = .slice (some ⟨g, off, none⟩) dLen dCap) (hs : a.eval s = .slice (some ad) sLen sCap)
    (cur : Array Value) (t : TypeId) (hg : w.heap[g]? = some (.cells cur t (0, 0))) (cs : List Value) (hm : Nat.min sLen dLen = m) (hn : cs.length = m * size)
    (hsrc : ∀ j v, cs[j]? = some v → w.cell? (ad.add j) = some v) (hfit : off + cs.length ≤ cur.size) (h1 : ∀ v ∈ cs, v.oneCell' = true)
    (B : Nat) (w0 : World) (hb : Below B w0 w) (hBg : B ≤ g)
    (h : ∀ w', Hid (w'.heap[g]? = some (.cells (cur.toList.take off ++ (cs ++ cur.toList.drop (off + cs.length))).toArray t (0, 0))) → Below B w0 w' → wpList P ops Q rest (a.put o.dst (goInt m)) w') : wpList P ops Q (o :: rest) a w := by
  refine wpList_plain hgd fun K hK => ?_
  have hrun := run_copy_N (P := P) w dT sT o.type elem size g off dLen dCap ad sLen sCap m cur t cs hu hsz hg hm hn hsrc hfit h1
  unfold Oper.wp
  simp [execOp, ho, resolve, invoke, builtin, hd, hs, hrun, Result.andThen]
  exact hK _ _ (h _ (setRow_heap w g _ _ t _ hg) (below_setRow hb hBg _))

theorem step_copy_N {P : Program} {ops : Array Oper} {o : Oper} {a : Act} {w : World} {K : Act → World → Prop} {Q : Exit → Act → World → Prop} {E : Prop} (hgd : o.guard = none) (d s : Operand) (dT sT : TypeId)
    (ho : o.op = .call { callee := .builtin .copy, args := #[d, s], argTypes := #[dT, sT] }) (elem : TypeId) (size : Nat) (hu : P.underlying dT = some (.slice elem)) (hsz : (P.info? elem).map (·.size) = some size)
    (g off dLen dCap : Nat) (ad : Addr) (sLen sCap m : Nat) (hd : a.eval d = .slice (some ⟨g, off, none⟩) dLen dCap) (hs : a.eval s = .slice (some ad) sLen sCap)
    (cur : Array Value) (t : TypeId) (hg : w.heap[g]? = some (.cells cur t (0, 0))) (cs : List Value) (hm : Nat.min sLen dLen = m) (hn : cs.length = m * size)
    (hsrc : ∀ j v, cs[j]? = some v → w.cell? (ad.add j) = some v) (hfit : off + cs.length ≤ cur.size) (h1 : ∀ v ∈ cs, v.oneCell' = true)
    (B : Nat) (w0 : World) (hb : Below B w0 w) (hBg : B ≤ g)
    (h : ∀ w', Hid (w'.heap[g]? = some (.cells (cur.toList.take off ++ (cs ++ cur.toList.drop (off + cs.length))).toArray t (0, 0))) → Below B w0 w' → K (a.put o.dst (goInt m)) w') :
    if Region.wanted o (yielded ops a.tmps) = true then Oper.wp P o a w K Q else E := by
  have hw : Region.wanted o (yielded ops a.tmps) = true := by simp [Region.wanted, hgd]
  rw [if_pos hw]
  have hrun := run_copy_N (P := P) w dT sT o.type elem size g off dLen dCap ad sLen sCap m cur t cs hu hsz hg hm hn hsrc hfit h1
  unfold Oper.wp
  simp [execOp, ho, resolve, invoke, builtin, hd, hs, hrun, Result.andThen]
  exact h _ (show _ = _ by simpa using setRow_heap w g _ _ t _ hg) (below_setRow hb hBg _)

def repL (k j : Nat) : List Sl := List.replicate j noSlot ++ List.replicate (k - j) (0, 0)
/-- The row while it is filled. -/
abbrev Fills (w : World) (g k j : Nat) : Prop := w.heap[g]? = some (.cells (slotCells (repL k j)).toArray 41 (0, 0))
theorem repL_length {k j : Nat} (h : j ≤ k) : (repL k j).length = k := by simp [repL]; omega
theorem slots_take (l : List Sl) (n : Nat) : (slotCells l).take (n * 2) = slotCells (l.take n) := by
  induction l generalizing n with
  | nil => simp [slotCells]
  | cons s r ih =>
    cases n with
    | zero => simp [slotCells]
    | succ n =>
      rw [show (n + 1) * 2 = n * 2 + 1 + 1 by omega]
      simp [slotCells, ih]
theorem slots_drop (l : List Sl) (n : Nat) : (slotCells l).drop (n * 2) = slotCells (l.drop n) := by
  induction l generalizing n with
  | nil => simp [slotCells]
  | cons s r ih =>
    cases n with
    | zero => simp [slotCells]
    | succ n =>
      rw [show (n + 1) * 2 = n * 2 + 1 + 1 by omega]
      simp [slotCells, ih]
theorem repL_step (k j m : Nat) (h : j + m ≤ k) : (slotCells (repL k j)).take (j * 2) ++ (slotCells (List.replicate m noSlot) ++ (slotCells (repL k j)).drop (j * 2 + (slotCells (List.replicate m noSlot)).length)) = slotCells (repL k (j + m)) := by
  rw [slotCells_length, List.length_replicate, ← Nat.add_mul, slots_take, slots_drop, ← slotCells_append, ← slotCells_append]
  congr 1
  have e1 : (repL k j).take j = List.replicate j noSlot := by simp [repL]
  have e2 : (repL k j).drop (j + m) = List.replicate (k - (j + m)) (0, 0) := by
    rw [repL, List.drop_append, List.drop_replicate, List.drop_replicate, List.length_replicate]
    rw [show j - (j + m) = 0 by omega, show k - j - (j + m - j) = k - (j + m) by omega]
    simp
  rw [e1, e2, ← List.append_assoc, List.replicate_append_replicate]
  rfl
theorem fills_src {w : World} {g k j m : Nat} (h : Fills w g k j) (hm : m ≤ j) (hj : j ≤ k) : ∀ i v, (slotCells (List.replicate m noSlot))[i]? = some v → w.cell? ((⟨g, 0, none⟩ : Addr).add i) = some v := by
  intro i v hv
  have hlt := (List.getElem?_eq_some_iff.1 hv).1
  rw [slotCells_length, List.length_replicate] at hlt
  have e : (slotCells (repL k j))[i]? = some v := by
    have : slotCells (repL k j) = slotCells (List.replicate m noSlot) ++ slotCells (List.replicate (j - m) noSlot ++ List.replicate (k - j) (0, 0)) := by
      rw [← slotCells_append, ← List.append_assoc, List.replicate_append_replicate, Nat.add_sub_cancel' hm]
      rfl
    rw [this, List.getElem?_append_left (by rw [slotCells_length, List.length_replicate]; omega)]
    exact hv
  have h' : w.heap[g]? = some (.cells (slotCells (repL k j)).toArray 41 (0, 0)) := h
  have := cell_of_row w g i _ _ (0, 0) h'
  by_cases hi : i = 0
  · subst hi
    simpa [Addr.add, this] using e
  · simpa [Addr.add, hi, this] using e
set_option maxHeartbeats 4000000 in
theorem repeat_c (b o : Nat) (k : Nat) (hk : k ≤ 24) (w : World) (hA : Rd w 2 (some ⟨b, o, none⟩) 1 (slotCells [noSlot])) : Calls Try.prog 96 #[.slice (some ⟨b, o, none⟩) 1 1, .int .i64 k] w (Made w 41 2 k (slotCells (List.replicate k noSlot))) := by
  obtain ⟨i0, hi, hz0, hz1, hz2⟩ := info_parts info_Slot
  have hsize : (Try.prog.info? 41).map (·.size) = some 2 := by rw [hi]; simp [hz1]
  go_enter Try.func96, Try.ntmps96
  go_wp2_with fail
  refine (mul_c k hk w).mono ?_
  rintro e w1 ⟨rfl, rfl⟩
  go_wp2_with (at_make; refine wpList_make_full _ rfl _ _ 22 rfl w.heap.size 41 i0 (.agg #[.int .i64 0, .int .i64 0]) 2 Try.underlying22 hi hz0 hz1 .i64 .i64 k k k rfl rfl rfl rfl (by rw [hz2]; omega) (by simp only [maxLen]; omega) (Nat.le_refl _) ?_; intro w1 hown hgr; refine Hid.out ?_)
  refine Lib.hid ?_
  have hb1 : Below w.heap.size w w1 := (Below.refl _ _).grown hgr (Nat.le_refl _) (fun k hk => by cases hk)
  have R1 := hA.below hb1
  have F1 : Fills w1 w.heap.size k 0 := by
    rw [show (Value.agg #[.int .i64 0, .int .i64 0]).cells = #[.int .i64 0, .int .i64 0] from rfl, slotCells_zero] at hown
    rcases hown.2 with ⟨hv, _⟩ | ⟨g, cap, cur, hv, _, hh, _, _, hcs, htk⟩
    · cases hv
    · injection hv with hv1 _ hv2
      injection hv1 with hv1
      injection hv1 with hv1
      subst hv1 hv2
      unfold Fills
      rw [hh]
      congr 2
      apply Array.ext'
      rw [List.toList_toArray, ← List.take_of_length_le (l := cur.toList) (i := k * 2) (by simp [hcs]), htk]
      simp [repL]
  clear hown hgr hA
  obtain ⟨m, hm, hmk, hm0, hm1⟩ : ∃ m, Nat.min 1 k = m ∧ m ≤ k ∧ (0 < m ∨ k = 0) ∧ m ≤ 1 := ⟨_, rfl, Nat.min_le_right _ _, by rcases Nat.eq_zero_or_pos k with h | h; exact .inr h; left; exact Nat.lt_min.2 ⟨by omega, h⟩, Nat.min_le_left _ _⟩
  have hsrc : ∀ j v, (slotCells (List.replicate m noSlot))[j]? = some v → w1.cell? ((⟨b, o, none⟩ : Addr).add j) = some v := by
    intro j v hv
    obtain ⟨b', o', e, hc⟩ := R1.2 (by omega)
    injection e with e
    injection e with e1 e2
    subst e1 e2
    have hv' : (slotCells [noSlot])[j]? = some v := by
      rcases (show m = 0 ∨ m = 1 by omega) with rfl | rfl
      · simp [slotCells] at hv
      · exact hv
    have := hc j v hv'
    by_cases hj : j = 0
    · subst hj; simpa [Addr.add] using this
    · simpa [Addr.add, hj] using this
  have HF := Lib.hid F1
  have HS := Lib.hid hsrc
  have HM := Lib.hid hm
  have HN : Hid ((slotCells (List.replicate m noSlot)).length = m * 2) := Lib.hid (by rw [slotCells_length, List.length_replicate])
  have HT : Hid (0 + (slotCells (List.replicate m noSlot)).length ≤ (slotCells (repL k 0)).toArray.size) := Lib.hid (by rw [HN.out, List.size_toArray, slotCells_length, repL_length (Nat.zero_le k)]; omega)
  clear F1 R1 hsrc hm hz2
  go_wp2_with ((with_reducible refine wpList_copy_N (o := ⟨some 33, _, _, _, _, _⟩) rfl (.tmp 31) (.tmp 32) 22 22 rfl 41 2 Try.underlying22 hsize w.heap.size 0 k k ⟨b, o, none⟩ 1 1 m (by simp [Act.eval, Act.put]) (by simp [Act.eval, Act.put]) _ 41 HF.out (slotCells (List.replicate m noSlot)) HM.out HN.out HS.out HT.out (slotCells_one _) w.heap.size w hb1 (Nat.le_refl _) ?_); intro w2 HG2 hb2; refine Hid.out ?_)
  refine Lib.hid ?_
  have F2 : Hid (Fills w2 w.heap.size k m) := by
    have e := repL_step k 0 m (by omega)
    simp only [Nat.zero_mul] at e
    have h2 := HG2.out
    try simp only [List.toList_toArray] at h2
    rw [e, Nat.zero_add] at h2
    exact h2
  clear HG2 HF HS HM hb1 hm1
  go_wp2
  go_loopw [8] (fun n wr => ∃ j : Nat, j ≤ k ∧ (0 < j ∨ k = 0) ∧ n = .int .i64 j ∧ Hid (Fills wr w.heap.size k j) ∧ Below w.heap.size w wr) (fun n _ => k - (intOf n).toNat)
  case atStart => exact ⟨m, hmk, hm0, rfl, F2, hb2⟩
  case round =>
    obtain ⟨j, hj, hj0, rfl, F, hbl⟩ := hrel
    clear F2 hb2 hm0 hmk
    by_cases hlt : j < k
    · have hj1 : 0 < j := by omega
      have hkj : ¬ k = j := by omega
      obtain ⟨q, hq⟩ : ∃ q, Nat.min j (k - j) = q := ⟨_, rfl⟩
      have hq1 : q ≤ j := by rw [← hq]; exact Nat.min_le_left _ _
      have hq2 : q ≤ k - j := by rw [← hq]; exact Nat.min_le_right _ _
      have hq0 : 0 < q := by rw [← hq]; exact Nat.lt_min.2 ⟨hj1, by omega⟩
      have HQ := Lib.hid hq
      have HN : Hid ((slotCells (List.replicate q noSlot)).length = q * 2) := Lib.hid (by rw [slotCells_length, List.length_replicate])
      have HT : Hid (j * 2 + (slotCells (List.replicate q noSlot)).length ≤ (slotCells (repL k j)).toArray.size) := Lib.hid (by rw [HN.out, List.size_toArray, slotCells_length, repL_length hj]; omega)
      have HS := Lib.hid (fills_src F.out hq1 hj)
      clear hq
      go_wp2_with fail
      go_region_law (refine step_copy_N rfl (.tmp 41) (.tmp 44) 22 22 rfl 41 2 Try.underlying22 hsize w.heap.size (j * 2) (k - j) (k - j) ⟨w.heap.size, 0, none⟩ j k q (by simp [Act.eval, Act.put]) (by simp [Act.eval, Act.put]) _ 41 F.out (slotCells (List.replicate q noSlot)) HQ.out HN.out HS.out HT.out (slotCells_one _) w.heap.size w hbl.drew (Nat.le_refl _) ?_; intro w3 HG3 hb3)
      have F3 : Hid (Fills w3 w.heap.size k (j + q)) := by
        have e := repL_step k j q (by omega)
        have h2 := HG3.out
        try simp only [List.toList_toArray] at h2
        rw [e] at h2
        exact h2
      clear HG3 F HS HT HN HQ
      have hw : IntKind.i64.wrap ((j : Int) + (q : Int)) = ((j + q : Nat) : Int) := by rw [IntWalk.i64_in _ (by omega)]; simp
      simp only [hw]
      go_simp
      go_roundw
      case rel => exact ⟨_, _, _, _, _, _, _, _, _, _, _, _, _, _, ⟨j + q, by omega, by omega, by go_num, F3, hb3⟩, rfl⟩
      case measure => simp [intOf]; omega
    · go_wp2
      go_ret
      obtain rfl : j = k := by omega
      refine Made.mk rfl ⟨by rw [slotCells_length, List.length_replicate], ?_⟩ hbl
      right
      refine ⟨w.heap.size, j, (slotCells (repL j j)).toArray, rfl, Nat.le_refl _, F.out, Nat.le_refl _, by simp only [maxLen]; omega, by rw [List.size_toArray, slotCells_length, repL_length (Nat.le_refl _)], ?_⟩
      have : repL j j = List.replicate j noSlot := by simp [repL]
      rw [List.toList_toArray, this, List.take_of_length_le (Nat.le_of_eq (by rw [slotCells_length, List.length_replicate]))]
theorem brought24 (n : Int) : ∃ k : Nat, brought n 0 24 = k ∧ k ≤ 24 := by
  have : 0 ≤ brought n 0 24 ∧ brought n 0 24 ≤ 24 := by unfold brought; (repeat' split) <;> omega
  exact ⟨(brought n 0 24).toNat, by omega, by omega⟩
def tableNew (n : Int) : List Sl := List.replicate (brought n 0 24).toNat noSlot
theorem iTableNew_c (n : Int) (w : World) : Calls Try.prog 16 #[.int .i64 n] w (Made w 41 2 (brought n 0 24).toNat (slotCells (tableNew n))) := by
  obtain ⟨k, hk, hk24⟩ := brought24 n
  have HK := Lib.hid hk
  unfold tableNew
  rw [hk, Int.toNat_natCast]
  clear hk
  go_enter Try.func16, Try.ntmps16
  go_wp2_with fail
  refine (iNoSlot_c _).mono ?_
  rintro e w1 ⟨rfl, hb1⟩
  have hlit := World.ownsRow_lit (base := w1.heap.size) (e := 41) (size := 2) w1 #[.int .i64 (-1), .int .i64 0] 1 (Nat.le_refl _) (by unfold maxLen; omega) (by simp)
  have hb2 := Lib.hid (hb1.trans (((Below.refl w1.heap.size w1).alloc (Nat.le_refl _) (.cells #[.int .i64 (-1), .int .i64 0] 41)).mono hb1.size))
  have HR := Lib.hid (Rd.of_own hlit)
  clear hlit
  go_wp2_with (go_at_call 97; refine (iBrought_c _ _ _ _).mono ?_; rintro e w' ⟨rfl, rfl⟩; rw [HK.out])
  refine (repeat_c w1.heap.size 0 k hk24 _ HR.out).mono ?_
  rintro e w2 ⟨A, c, rfl, ho, hb3⟩
  go_wp2
  go_ret
  exact Made.mk rfl (own_base ho (by have := hb2.out.size; exact this)) (hb2.out.trans (hb3.mono hb2.out.size))
theorem sTableNew_c (n : Int) (w : World) : Calls Try.prog 15 #[.int .i64 n] w (Made w 41 2 (brought n 0 24).toNat (slotCells (tableNew n))) := by
  obtain ⟨k, hk, hk24⟩ := brought24 n
  obtain ⟨i0, hi, hz0, hz1, hz2⟩ := info_parts info_Slot
  have HK := Lib.hid hk
  unfold tableNew
  rw [hk, Int.toNat_natCast]
  clear hk
  have hown0 := World.ownsRow_lit (base := w.heap.size) (e := 41) (size := 2) w #[] 0 (Nat.le_refl _) (by simp) (by simp)
  go_enter Try.func15, Try.ntmps15
  go_wp2_with (go_at_call 95; refine (sBrought_c _ _ _ _).mono ?_; rintro e w' ⟨rfl, rfl⟩; rw [HK.out])
  go_loopw [3, 4] (fun v i wr => ∃ (j : Nat) (G : Option Addr) (cc : Nat), j ≤ k ∧ i = .int .i64 ((k - j : Nat) : Int) ∧ v = .slice G j cc ∧ wr.ownsRow w.heap.size 41 2 (.slice G j cc) j (slotCells (List.replicate j noSlot)) ∧ Below w.heap.size w wr) (fun _ i _ => (intOf i).toNat)
  case atStart => exact ⟨0, _, _, by omega, rfl, rfl, by simpa [slotCells] using hown0, (Below.refl _ _).alloc (Nat.le_refl _) _⟩
  case round =>
    obtain ⟨j, G, cc, hj, rfl, rfl, hown, hbel⟩ := hrel
    clear hown0
    obtain ⟨q, hq⟩ : ∃ q, k - j = q := ⟨_, rfl⟩
    rw [hq]
    by_cases hlt : 0 < q
    · go_wp2_with fail
      refine (sNoSlot_c _).mono ?_
      rintro e w2 ⟨rfl, hb2⟩
      have hbel2 : Below w.heap.size w w2 := hbel.trans (hb2.mono hbel.size)
      have hown2 := own_kept hown hb2
      clear hb2 hown hbel
      go_wp2_with (at_builtin; refine wpList_append_own _ rfl _ _ 22 rfl w.heap.size 41 i0 (.agg #[.int .i64 0, .int .i64 0]) 2 16 Try.underlying22 hi hz0 hz1 hz2 rfl (by decide) _ _ _ rfl (hown2.alloc _) ⟨w2.heap.size, 0, none⟩ 1 1 [.int .i64 (-1), .int .i64 0] rfl rfl (new_one w2 #[.int .i64 (-1), .int .i64 0] _) ?c2 ?c3 ?c4 ?c5 ?_)
      case c2 => intro u hu; simp at hu; rcases hu with rfl | rfl <;> rfl
      case c3 => unfold maxLen; omega
      case c4 => omega
      case c5 => have := hbel2.size; simp; omega
      intro v' w3 hown3 hgr3 _
      have hbel3 := below_grown (hbel2.alloc hbel2.size _) (hown2.alloc _) (Nat.le_refl _) hgr3
      obtain ⟨G', cc', rfl⟩ := own_shape hown3
      have HO : Hid (w3.ownsRow w.heap.size 41 2 (.slice G' (j + 1) cc') (j + 1) (slotCells (List.replicate (j + 1) noSlot))) := by
        show w3.ownsRow w.heap.size 41 2 (.slice G' (j + 1) cc') (j + 1) (slotCells (List.replicate (j + 1) noSlot))
        rw [List.replicate_succ', slotCells_append]
        exact hown3
      clear hown3 hgr3 hbel2 hown2
      go_wp2
      go_roundw
      case rel => exact ⟨j + 1, G', cc', by omega, by go_num, rfl, HO.out, hbel3⟩
      case measure => simp [intOf]; omega
    · go_wp2
      go_ret
      obtain rfl : j = k := by omega
      exact Made.mk rfl hown hbel
theorem sTableNew_k {n : Int} {k : Nat} (hk : brought n 0 24 = k) (w : World) : Calls Try.prog 15 #[.int .i64 n] w (Made w 41 2 k (slotCells (List.replicate k noSlot))) := by
  have h := sTableNew_c n w
  unfold tableNew at h
  rwa [hk, Int.toNat_natCast] at h
theorem iTableNew_k {n : Int} {k : Nat} (hk : brought n 0 24 = k) (w : World) : Calls Try.prog 16 #[.int .i64 n] w (Made w 41 2 k (slotCells (List.replicate k noSlot))) := by
  have h := iTableNew_c n w
  unfold tableNew at h
  rwa [hk, Int.toNat_natCast] at h
end Go.Proofs.Ytlfnhfipnjgifaa
