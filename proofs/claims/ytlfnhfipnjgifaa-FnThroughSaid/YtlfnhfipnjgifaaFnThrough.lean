/- The law FnThrough returns true for every input. No condition. -/
import Derived.Test.YtlfnhfipnjgifaaRows
import Derived.Test.YtlfnhfipnjgifaaOpenB
import Derived.Test.YtlfnhfipnjgifaaDrawR
import Derived.Test.YtlfnhfipnjgifaaCompose
import Derived.Test.YtlfnhfipnjgifaaRestrict
import Derived.Test.YtlfnhfipnjgifaaLoops1
import Derived.Test.YtlfnhfipnjgifaaRep
import Derived.Test.YtlfnhfipnjgifaaSameS
import Derived.Test.YtlfnhfipnjgifaaLawT
import Derived.Test.YtlfnhfipnjgifaaAppAt
import Derived.Test.YtlfnhfipnjgifaaDrawS
import Derived.WalkKit
import Derived.ProofKit
import Derived.OpenShut
import Derived.ShutString
import Derived.ChangeOld
import Derived.Below
import Derived.Handy
import Derived.Carry
import Derived.Lib.SmallJoins
import Derived.WalkLawsBesides
import Derived.WalkSpells
import Derived.BigQuiet
import Derived.Deep.QuietTactic
import Derived.Outline
namespace Go.Proofs.Ytlfnhfipnjgifaa.fnThrough
open Go.ChangeShapes Go.WideShapes Go.ChangeAt Go.RowKit
open Go.ChangeMaps (open_string shut_string)
set_option linter.unusedVariables false
set_option linter.unusedSimpArgs false

theorem apart_empty {w : World} {base n c b : Nat} {A : Option Addr} {e : TypeId} {xs : List Value} (h : w.ownsRow base e 2 (.slice A n c) n xs) (hn : 0 < n) (hb : w.heap[b]? = some (.cells #[] e (0, 0))) : (Value.slice A n c).ownBlock ≠ some b := by
  rcases h.2 with ⟨_, h0⟩ | ⟨g, cap, cur, hv, _, hh, hle, _, hcs, _⟩
  · omega
  · injection hv with hA _ _
    subst hA
    intro he
    simp only [Value.ownBlock, Option.some.injEq] at he
    subst he
    rw [hb] at hh
    injection hh with hh
    injection hh with hh
    subst hh
    simp at hcs
    omega
set_option maxHeartbeats 4000000 in
set_option maxRecDepth 20000 in
theorem walk (a0 : Option Addr) (len0 cap0 : Nat) (l0 : Nat) (w : World) (h0 : Bytes w w.heap.size a0 len0 ∧ len0 ≤ maxLen) :
    Calls Try.prog 11 #[.slice a0 len0 cap0] w fun e w' => e = .returned (.bool true) ∧ Below w.heap.size w w' := by
  obtain ⟨hb, hm⟩ := h0
  by_cases hbig : 1048576 < len0
  · go_enter Try.func11, Try.ntmps11
    go_wp2_with fail
    refine (big_c _ _ _ _ hm).mono ?_
    rintro e w' ⟨rfl, rfl⟩
    rw [decide_eq_true hbig]
    go_wp2
    go_ret
    exact ⟨rfl, Below.refl _ _⟩
  have hle : len0 ≤ 1048576 := by omega
  have HB := Lib.hid hb
  clear hb
  go_enter Try.func11, Try.ntmps11
  go_wp2_with fail
  refine (big_c _ _ _ _ hm).mono ?_
  rintro e w' ⟨rfl, rfl⟩
  rw [decide_eq_false hbig]
  clear hbig hm
  have B0 := Below.refl w.heap.size w
  go_wp2_with fail
  refine (DrawPlaces_c a0 len0 cap0 _ HB.out hle).mono ?_
  rintro e w1 ⟨GP, ccP, l, rfl, hl, hr, hown, hb⟩
  have RG := Lib.hid (Rd.of_own hown)
  have HR := Lib.hid hr
  have HL := Lib.hid hl
  clear hown hr
  have B1 := B0.trans (hb.mono B0.size)
  clear B0
  have HB1 := Lib.hid (HB.out.grow hb)
  clear HB
  clear hb
  clear HB1
  obtain ⟨i0, hi, hz0, hz1, hz2⟩ := info_parts info_Slot
  have oU := World.ownsRow_lit (base := w1.heap.size) (e := 41) (size := 2) w1 #[] 0 (Nat.le_refl _) (by simp) (by simp)
  have oI := World.ownsRow_lit (base := w1.heap.size + 1) (e := 41) (size := 2) (w1.alloc (.cells #[] 41)) #[] 0 (by simp) (by simp) (by simp)
  have hIb : ((w1.alloc (.cells #[] 41)).alloc (.cells #[] 41)).heap[w1.heap.size + 1]? = some (.cells #[] 41 (0, 0)) := by
    have := heap_alloc_new (w1.alloc (.cells #[] 41)) (.cells #[] 41)
    simpa using this
  have b1 := (Below.refl w1.heap.size w1).alloc (Nat.le_refl _) (.cells #[] 41)
  have b2 := b1.trans (((Below.refl (w1.alloc (.cells #[] 41)).heap.size _).alloc (Nat.le_refl _) (.cells #[] 41)).mono b1.size)
  have oU2 := oU.alloc (.cells #[] 41)
  have H1 := Lib.hid oU2
  have H2 := Lib.hid hIb
  have H3 := Lib.hid b2
  clear oU oI hIb b1 b2 oU2
  go_wp2
  go_loopw [4, 6] (fun v i wr => ∃ (k : Nat) (G : Option Addr) (cc : Nat), k ≤ 8 ∧ i = .int .i64 k ∧ v = .slice G k cc ∧ Hid (wr.ownsRow w1.heap.size 41 2 (.slice G k cc) k (slotCells (idTable k))) ∧ Hid (k = 0 → (Value.slice G k cc).ownBlock ≠ some (w1.heap.size + 1)) ∧ Hid (wr.heap[w1.heap.size + 1]? = some (.cells #[] 41 (0, 0))) ∧ Hid (Below w1.heap.size w1 wr)) (fun _ i _ => 8 - (intOf i).toNat)
  case atStart => exact ⟨0, _, _, by omega, rfl, rfl, H1, Lib.hid fun _ => by simp [Value.ownBlock], H2, H3⟩
  case round =>
    obtain ⟨k, G, cc, hk, rfl, rfl, hown, hne, hI, hbl⟩ := hrel
    clear H1 H2 H3
    have hlt1 : w1.heap.size + 1 < wr.heap.size := by
      rcases Nat.lt_or_ge (w1.heap.size + 1) wr.heap.size with h | h
      · exact h
      · have := hI.out; rw [Array.getElem?_eq_none h] at this; cases this
    have hne2 : Hid ((Value.slice G k cc).ownBlock ≠ some (w1.heap.size + 1)) := Lib.hid (by
      rcases Nat.eq_zero_or_pos k with h | h
      · exact hne.out h
      · exact apart_empty hown.out h hI.out)
    clear hne
    by_cases hlt : k < 8
    · go_wp2_with (at_builtin; refine wpList_append_own _ rfl _ _ 22 rfl w1.heap.size 41 i0 (.agg #[.int .i64 0, .int .i64 0]) 2 16 Try.underlying22 hi hz0 hz1 hz2 rfl (by decide) (.slice G k cc) k (slotCells (idTable k)) rfl (hown.out.alloc _) ⟨wr.heap.size, 0, none⟩ 1 1 [.int .i64 k, .int .i64 3] rfl rfl (new_one wr #[.int .i64 k, .int .i64 3] _) ?c2 ?c3 ?c4 ?c5 ?_)
      case c2 => intro u hu; simp at hu; rcases hu with rfl | rfl <;> rfl
      case c3 => unfold maxLen; omega
      case c4 => omega
      case c5 => simp; omega
      intro v' w3 hown3 hgr3 _
      have hbl3 := Lib.hid (below_grown (hbl.out.alloc hbl.out.size _) (hown.out.alloc _) (Nat.le_refl _) hgr3)
      obtain ⟨G', cc', rfl⟩ := own_shape hown3
      have hI3 : Hid (w3.heap[w1.heap.size + 1]? = some (.cells #[] 41 (0, 0))) := Lib.hid ((hgr3.block _ (by simp; omega) (fun e => hne2.out e.symm)).trans ((((Below.refl wr.heap.size wr).alloc (Nat.le_refl _) (.cells #[.int .i64 k, .int .i64 3] 41)).block _ hlt1).trans hI.out))
      have HO : Hid (w3.ownsRow w1.heap.size 41 2 (.slice G' (k + 1) cc') (k + 1) (slotCells (idTable (k + 1)))) := by
        show w3.ownsRow w1.heap.size 41 2 (.slice G' (k + 1) cc') (k + 1) (slotCells (idTable (k + 1)))
        rw [idTable_succ, slotCells_append]
        exact hown3
      clear hown3 hgr3 hown hbl hI hne2
      go_wp2
      go_roundw
      case rel => exact ⟨k + 1, G', cc', by omega, by go_num, rfl, HO, Lib.hid fun h => absurd h (by omega), hI3, hbl3⟩
      case measure => simp [intOf]; omega
    · obtain rfl : k = 8 := by omega
      have RO := Lib.hid (Rd.of_own hown.out)
      have OI : Hid (wr.ownsRow (w1.heap.size + 1) 41 2 (.slice (some ⟨w1.heap.size + 1, 0, none⟩) 0 0) 0 (slotCells [])) := Lib.hid ⟨rfl, .inr ⟨w1.heap.size + 1, 0, #[], rfl, Nat.le_refl _, hI.out, Nat.le_refl _, by simp [maxLen], rfl, rfl⟩⟩
      have hbw := Lib.hid (B1.trans (hbl.out.mono B1.size))
      have RP := Lib.hid (RG.out.below hbl.out)
      have hoNe : ∀ p, G = some p → p.block ≠ w1.heap.size + 1 := fun p hp he => hne2.out (by rw [hp]; simp [Value.ownBlock, he])
      clear hown hne2 hI HL
      have hwr1 := hbl.out.size
      have hpNe : ∀ p, GP = some p → p.block ≠ w1.heap.size + 1 := fun p hp he => by
        obtain ⟨b', o', e', hc⟩ := RG.out.2 (by omega)
        rw [hp] at e'
        injection e' with e'
        have := World.block_lt_of_cell? _ _ (hc 0 (.int .i64 (l[0]'(by omega))) (by simp [intCells, List.getElem?_eq_getElem (show 0 < l.length by omega)]))
        subst e'
        simp only at this he
        omega
      have B0s := B1.size
      clear hbl B1 RG
      obtain ⟨wo, hwo⟩ : ∃ x, x = wr := ⟨_, rfl⟩
      subst hwo
      go_wp2
      go_loopw [5, 7] (fun v i wr => ∃ (k : Nat) (GI : Option Addr) (ci : Nat) (L : List Sl), k ≤ 4 ∧ i = .int .i64 k ∧ v = .slice GI k ci ∧ Hid (SmallSlots L) ∧ Hid (wr.ownsRow (w1.heap.size + 1) 41 2 (.slice GI k ci) k (slotCells L)) ∧ Hid (∀ g, (Value.slice GI k ci).ownBlock = some g → g = w1.heap.size + 1 ∨ wo.heap.size ≤ g) ∧ Hid (wo.grownBy wr (some (w1.heap.size + 1)))) (fun _ i _ => 4 - (intOf i).toNat)
      case atStart => exact ⟨0, _, _, [], by omega, rfl, rfl, Lib.hid (by intro s hs; simp at hs), OI, Lib.hid (fun g hg => .inl (by simpa [Value.ownBlock] using hg.symm)), Lib.hid (World.grownBy.refl _ _)⟩
      case round =>
        obtain ⟨k, GI, ci, L, hk, rfl, rfl, HS, own, BK, FR⟩ := hrel
        clear OI
        by_cases hlt : k < 4
        · have RQ := RP.out.cur FR.out hpNe
          obtain ⟨bp, op, y, hA1, hy, cy⟩ := RQ.int k (by omega)
          obtain ⟨bp', op', z, hA2, hz, cz⟩ := RQ.int (k + 4) (by omega)
          subst hA1
          injection hA2 with hA2
          injection hA2 with e1 e2
          subst e1 e2
          have ny := HR.out _ (List.mem_of_getElem? hy)
          have nz := HR.out _ (List.mem_of_getElem? hz)
          have hsq := FR.out.size
          have cyD : wr.drew.cell? ⟨bp, op + k, none⟩ = some (.int .i64 y) := cy
          have czD : wr.drew.cell? ⟨bp, op + (k + 4), none⟩ = some (.int .i64 z) := cz
          have ownD : Hid (wr.drew.ownsRow (w1.heap.size + 1) 41 2 (.slice GI k ci) k (slotCells L)) := Lib.hid own.out
          clear RQ hy hz cy cz own
          have k12 : (k : Int) < 12 := by omega
          have k00 : (0 : Int) ≤ (k : Int) + 4 := by omega
          have k16 : (k : Int) + 4 < 12 := by omega
          have wk : IntKind.i64.wrap ((k : Int) + 4) = (k : Int) + 4 := IntWalk.i64_in _ (by omega)
          have tk : ((k : Int) + 4).toNat = k + 4 := by omega
          have ty : y.tmod 8 = y % 8 := Int.tmod_eq_emod_of_nonneg ny.1
          have tz : z.tmod 3 = z % 3 := Int.tmod_eq_emod_of_nonneg nz.1
          have wy : IntKind.i64.wrap (y % 8) = y % 8 := IntWalk.i64_in _ (by omega)
          have wz : IntKind.i64.wrap (z % 3) = z % 3 := IntWalk.i64_in _ (by omega)
          have wz1 : IntKind.i64.wrap (1 + z % 3) = 1 + z % 3 := IntWalk.i64_in _ (by omega)
          go_wp2_with fail
          go_region_law (refine step_append_at rfl (.tmp 27) (.tmp 41) 22 rfl (w1.heap.size + 1) 41 i0 (.agg #[.int .i64 0, .int .i64 0]) 2 16 Try.underlying22 hi hz0 hz1 hz2 rfl (by decide) (.slice GI k ci) k (slotCells L) (by simp [Act.eval, Act.put]) (ownD.out.alloc _) ⟨wr.heap.size, 0, none⟩ 1 1 [.int .i64 (y % 8), .int .i64 (1 + z % 3)] (by simp [Act.eval, Act.put]) rfl (new_one wr.drew #[.int .i64 (y % 8), .int .i64 (1 + z % 3)] _) (by intro u hu; simp at hu; rcases hu with rfl | rfl <;> rfl) (by unfold maxLen; omega) (by omega) (by simp; omega) ?_; intro v' w3 hown3)
          all_goals
            obtain ⟨hown3, hgr3, hblk⟩ := hown3
            obtain ⟨G', cc', rfl⟩ := own_shape hown3
            have hgr4 : wr.grownBy w3 (Value.slice GI k ci).ownBlock := grown_trans (⟨rfl, rfl, rfl, by simp, fun j hj _ => ((Below.refl wr.drew.heap.size wr.drew).alloc (Nat.le_refl _) (.cells #[.int .i64 (y % 8), .int .i64 (1 + z % 3)] 41)).block j hj⟩ : wr.grownBy (wr.drew.alloc (.cells #[.int .i64 (y % 8), .int .i64 (1 + z % 3)] 41)) (Value.slice GI k ci).ownBlock) hgr3
            have FR3 : Hid (wo.grownBy w3 (some (w1.heap.size + 1))) := Lib.hid ⟨hgr4.os.trans FR.out.os, hgr4.tape.trans FR.out.tape, hgr4.output.trans FR.out.output, Nat.le_trans FR.out.size hgr4.size, fun j hj hne => (hgr4.block j (by omega) (fun e => by
              rcases BK.out j e.symm with h | h
              · exact hne (by rw [h])
              · omega)).trans (FR.out.block j hj hne)⟩
            have BK3 : Hid (∀ g, (Value.slice G' (k + 1) cc').ownBlock = some g → g = w1.heap.size + 1 ∨ wo.heap.size ≤ g) := Lib.hid fun g hg => by
              rcases hblk with h | h
              · exact BK.out g (h.symm.trans hg)
              · rw [h] at hg; injection hg with hg; right; simp at hg; omega
            have HO : Hid (w3.ownsRow (w1.heap.size + 1) 41 2 (.slice G' (k + 1) cc') (k + 1) (slotCells (L ++ [(y % 8, 1 + z % 3)]))) := Lib.hid (by rw [slotCells_append]; exact hown3)
            have HS3 : Hid (SmallSlots (L ++ [(y % 8, 1 + z % 3)])) := Lib.hid fun s hs => by
              rcases List.mem_append.mp hs with hs | hs
              · exact HS.out s hs
              · simp at hs; subst hs; simp only; omega
            clear hown3 hgr3 hblk hgr4 FR BK ownD HS
            go_simp
            go_wp2
            go_roundw
            case rel => exact ⟨_, _, _, _, _, _, _, _, _, _, _, _, _, _, _, _, _, _, _, _, _, _, ⟨k + 1, G', cc', L ++ [(y % 8, 1 + z % 3)], by omega, by go_num, rfl, HS3, HO, BK3, FR3⟩, rfl⟩
            case measure => simp [intOf]; omega
        · obtain rfl : k = 4 := by omega
          have RO2 := Lib.hid (RO.out.cur FR.out hoNe)
          have RI := Lib.hid (Rd.of_own own.out)
          have hsz := FR.out.size
          have hbw2 := Lib.hid (Below.grown hbw.out FR.out hbw.out.size (fun k hk => by injection hk with hk; have := B0s; omega))
          obtain ⟨T1, T2, T3⟩ := through_law L HS.out
          have K1 := Lib.hid T1
          have K2 := Lib.hid T2
          have K3 := Lib.hid T3
          have HK8 : Hid (brought 8 0 24 = ((8 : Nat) : Int)) := Lib.hid (by decide)
          clear own FR BK RO RP T1 T2 T3 hbw
          go_wp2_with fail
          refine (iCompose_c GI G 4 8 ci cc L (idTable 8) _ RI.out RO2.out (by omega) (by omega)).mono ?_
          rintro e w4 ⟨A4, c4, rfl, own4, hb4⟩
          rw [K1.out] at own4
          have R4 := Lib.hid (Rd.of_own own4)
          have RI4 := Lib.hid (RI.out.below hb4)
          have B4 := Lib.hid (hbw2.out.trans (hb4.mono hbw2.out.size))
          clear own4 hb4 RI RO2 hbw2
          go_wp2_with fail
          refine (sameSlots_t A4 GI 4 c4 ci L _ R4.out RI4.out (by omega)).mono ?_
          rintro e w5 ⟨rfl, hb5⟩
          have RI5 := Lib.hid (RI4.out.below hb5)
          have B5 := Lib.hid (B4.out.trans (hb5.mono B4.out.size))
          clear hb5 RI4 R4 B4
          go_wp2_with fail
          refine (iTableNew_k HK8.out _).mono ?_
          rintro e w6 ⟨A6, c6, rfl, own6, hb6⟩
          have R6 := Lib.hid (Rd.of_own own6)
          have RI6 := Lib.hid (RI5.out.below hb6)
          have B6 := Lib.hid (B5.out.trans (hb6.mono B5.out.size))
          clear own6 hb6 RI5 B5
          go_wp2_with fail
          refine (iCompose_c GI A6 4 8 ci c6 L (List.replicate 8 noSlot) _ RI6.out R6.out (by omega) (by omega)).mono ?_
          rintro e w7 ⟨A7, c7, rfl, own7, hb7⟩
          have R7 := Lib.hid (Rd.of_own own7)
          have RI7 := Lib.hid (RI6.out.below hb7)
          have B7 := Lib.hid (B6.out.trans (hb7.mono B6.out.size))
          clear own7 hb7 RI6 B6 R6
          go_wp2_with fail
          refine (iMapped_c A7 4 c7 (L.map fun s => composeSlot s (List.replicate 8 noSlot)) _ R7.out (by omega)).mono ?_
          rintro e w8 ⟨rfl, hb8⟩
          rw [K2.out]
          have RI8 := Lib.hid (RI7.out.below hb8)
          have B8 := Lib.hid (B7.out.trans (hb8.mono B7.out.size))
          clear hb8 RI7 B7 R7
          go_wp2_with fail
          refine (iRestrict_c GI 4 ci L 0 _ RI8.out (by omega)).mono ?_
          rintro e w9 ⟨A9, c9, rfl, own9, hb9⟩
          have R9 := Lib.hid (Rd.of_own own9)
          have B9 := Lib.hid (B8.out.trans (hb9.mono B8.out.size))
          clear own9 hb9 RI8 B8
          go_wp2_with fail
          refine (iMapped_c A9 4 c9 (L.map fun s => restrictS s 0) _ R9.out (by omega)).mono ?_
          rintro e w10 ⟨rfl, hb10⟩
          rw [K3.out]
          have B10 := Lib.hid (B9.out.trans (hb10.mono B9.out.size))
          clear hb10 R9 B9
          go_wp2
          go_ret
          exact ⟨rfl, B10.out⟩


/-! ### The row's step -/
theorem own : ownKnob Try.prog.godebug = none := by kernel_rfl
theorem laidOut : laidOutB Try.prog = true := by kernel_rfl
set_option maxRecDepth 100000 in
theorem lifted (os : Os) (started : os.Started) (H : Type) (enc : TypeId × Value → H) :
    ReturnsInHanded {} Try.checked os 11 .any (Rows.fnThroughSpec.pre6 enc Try.prog Try.f11 Rows.fnThroughRow.domain false) (Rows.fnThroughSpec.post enc Try.prog Try.f11 false true false false) := by
  refine returnsInHanded_of_change (C := Try.checked) own started (by kernel_rfl) Try.func11
    (ChangeSpec.witness6 (enc := enc) (C := Try.checked) false ⟨#[], #[.slice none 0 0], []⟩ 8 (by kernel_rfl) (by kernel_rfl) (by kernel_rfl) (by kernel_rfl)) ?_
  intro W base args ds gs before hval0 hW hcnd _
  have hval : ∀ (j : Nat) t v, Try.f11.params[j]? = some t → args[j]? = some v → Value.okWide Try.prog W .any base t v := hval0
  have hW' := hW
  obtain ⟨p, q, hA0, hV, rfl, hfz, hnd⟩ := hW
  have hA : DataW.TrodAll enc Try.prog W 0 (fun _ => true) true Try.f11.params.toList args.toList ds p := hA0
  rw [Try.params11] at hA hval
  obtain ⟨v0, vs0, d0, ds0, p0, q0, hargs, rfl, rfl, h0, r0⟩ := trodAll_cons hA
  obtain ⟨rfl, rfl, rfl⟩ := trodAll_nil r0
  obtain rfl : args = #[v0] := by cases args; simp_all
  obtain ⟨rfl, rfl⟩ := trodVars_none hV
  have k0 := h0
  have lt0 : ∀ x ∈ p0, x.block < W.heap.size := by obtain ⟨m, hm⟩ := k0; exact DataW.trod_lt m _ _ _ hm
  obtain ⟨a0, len0, cap0, rfl⟩ := okWide_slice Try.underlying53 (hval 0 53 v0 rfl rfl)
  obtain ⟨l0, w0⟩ := opn_bytes k0
  clear hA0 hval0
  refine (walk a0 len0 cap0 l0 W w0).mono fun e W' ⟨he, bel⟩ => ?_
  subst he
  exact ⟨_, rfl, _, _, _, [], _, [], hW', trodAll_mk1 (shut_bool Try.underlying4 _), (trodAll_cons_mk (Below.trod laidOut (by kernel_rfl) (of_decide_eq_true (by kernel_rfl)) k0 bel lt0) trodAll_mk0), rfl, bel.frame _, fun h => by cases h⟩

theorem over : Rows.fnThroughRow.holds Try.pinned (OpenSpec.ofChange Rows.fnThroughSpec) :=
  OpenClaim.holds_of_wide 11 Try.f11 rfl rfl rfl rfl rfl rfl rfl ⟨rfl, rfl, rfl, rfl, rfl⟩ rfl rfl rfl rfl rfl (by kernel_rfl) Try.func11 (by kernel_rfl)
    (of_decide_eq_true (by kernel_rfl)) (by unfold Func.isWrapper; first | (rw [if_pos (by decide +kernel)]; kernel_rfl) | (rw [if_neg (by decide +kernel)]; exact ⟨rfl, rfl⟩))
    (fun os started H enc _ => lifted os started H enc)

/-- The statement. -/
theorem proved : Rows.FnThroughSaid := over
#print axioms proved
end Go.Proofs.Ytlfnhfipnjgifaa.fnThrough
