-- Negatives that are drawn.
import Derived.Test.YtjonocgmofcieaaGreatDoorQx4
import Derived.Test.YtjonocgmofcieaaGreatDoorArrKit
namespace Go.Proofs.YtjonocgmofcieaaGreatDoor.Q
open Go.RowKit Go.Proofs.YtjonocgmofcieaaGreatDoorW.PrintWords Go.Proofs.YtjonocgmofcieaaGreatDoorW.PrintLast Go.Proofs.YtjonocgmofcieaaGreatDoorW.PrintMore
attribute [local go_sem] max2_int min2_int max_two min_two max_three min_three max_four min_four
set_option linter.unusedVariables false
set_option linter.unusedSimpArgs false
namespace DC
theorem L_rdByte {l : List Int} (hl : ∀ x ∈ l, 0 ≤ x ∧ x ≤ 255) (i : Int) : 0 ≤ rd l i ∧ rd l i ≤ 255 := by
  unfold rd
  by_cases h : i.toNat < l.length
  · have := hl _ (List.getElem_mem h)
    simpa [List.getD, List.getElem?_eq_getElem h] using this
  · simp [List.getD, List.getElem?_eq_none (Nat.le_of_not_lt h)]

theorem L_w {x : Int} (h : -9223372036854775808 ≤ x ∧ x ≤ 9223372036854775807) : wrap64 x = x := by unfold wrap64; omega

theorem L_and255 (x : Int) : 0 ≤ Go.bits .and .u64 (IntKind.u64.wrap x / 1099511627776) 255 ∧ Go.bits .and .u64 (IntKind.u64.wrap x / 1099511627776) 255 ≤ 255 := by
  rw [IntKind.wrap_u64]
  obtain ⟨n, hn⟩ : ∃ n : Nat, x % 18446744073709551616 / 1099511627776 = n := ⟨(x % 18446744073709551616 / 1099511627776).toNat, by omega⟩
  have h2 : n < 2 ^ 64 := by omega
  rw [hn, show (255 : Int) = ((255 : Nat) : Int) from rfl, bits_and_u64_nat n 255 (by omega) (by omega)]
  have := Nat.and_le_right (n := n) (m := 255)
  omega

theorem L_next {l : List Int} (hl : ∀ x ∈ l, 0 ≤ x ∧ x ≤ 255) {a : Int} (ha : 0 ≤ a ∧ a ≤ 4611686018427387904) (z : Int) :
    ∃ x y, spec_l00Src_next.f l a z = some (x, a + 1, y) ∧ 0 ≤ x ∧ x ≤ 255 := by
  unfold spec_l00Src_next.f
  have hb := L_rdByte hl a
  rw [L_w (x := a + 1) (by omega), L_w (x := rd l a) (by omega)]
  split
  · rw [if_pos ha.1]
    split
    · exact ⟨_, _, rfl, hb.1, hb.2⟩
    · have := L_and255 ((IntKind.u64.wrap ((IntKind.u64.wrap (z * 6364136223846793005)) + (IntKind.u64.wrap (rd l a)))) + 1442695040888963407)
      rw [L_w (by omega)]
      exact ⟨_, _, rfl, this.1, this.2⟩
  · split
    · exact ⟨_, _, rfl, by omega, by omega⟩
    · have := L_and255 ((IntKind.u64.wrap ((IntKind.u64.wrap (z * 6364136223846793005)))) + 1442695040888963407)
      rw [L_w (by omega)]
      exact ⟨_, _, rfl, this.1, this.2⟩

theorem L_pick {l : List Int} (hl : ∀ x ∈ l, 0 ≤ x ∧ x ≤ 255) {a : Int} (ha : 0 ≤ a ∧ a ≤ 4611686018427387000) (z n : Int) :
    ∃ x b y, spec_l00Src_pick.f l a z n = some (x, b, y) ∧ 0 ≤ x ∧ (x < n ∨ n ≤ 1 ∧ x = 0) ∧ a ≤ b ∧ b ≤ a + 2 := by
  unfold spec_l00Src_pick.f
  split
  · exact ⟨_, _, _, rfl, by omega, by omega, by omega, by omega⟩
  · rename_i hn
    obtain ⟨x, y, e, h1, h2⟩ := L_next hl (a := a) (by omega) z
    rw [e]
    simp only [Option.bind_some]
    split
    · obtain ⟨x', y', e', h1', h2'⟩ := L_next hl (a := a + 1) (by omega) y
      rw [e']
      simp only [Option.bind_some]
      rw [if_neg (by omega), L_w (x := x * 256) (by omega), L_w (x := x * 256 + x') (by omega), Int.tmod_eq_emod_of_nonneg (by omega)]
      exact ⟨_, _, _, rfl, Int.emod_nonneg _ (by omega), Or.inl (Int.emod_lt_of_pos _ (by omega)), by omega, by omega⟩
    · rw [if_neg (by omega), Int.tmod_eq_emod_of_nonneg h1]
      exact ⟨_, _, _, rfl, Int.emod_nonneg _ (by omega), Or.inl (Int.emod_lt_of_pos _ (by omega)), by omega, by omega⟩

theorem pick {l : List Int} (hl : ∀ x ∈ l, 0 ≤ x ∧ x ≤ 255) {a : Int} (ha : 0 ≤ a ∧ a ≤ 4611686018427387000) (z n : Int) :
    ∃ x b y, spec_l00Src_pick.f l a z n = some (x, b, y) ∧ 0 ≤ x ∧ (x < n ∨ n ≤ 1 ∧ x = 0) ∧ a ≤ b ∧ b ≤ a + 2 := L_pick hl ha z n
end DC
theorem ArrAt.keep {W W1 : World} {b g : Nat} {T : TypeId} {k : IntKind} {xs : List Int} (h : ArrAt W b T k xs) (hk : KeepBut W W1 g none) (hne : b ≠ g) : ArrAt W1 b T k xs := hk.blk h hne (by simp)
theorem keep_below {w W W1 : World} {g : Nat} (h : KeepBut w W g none) (hb : Below W.heap.size W W1) : KeepBut w W1 g none := h.trans (KeepBut.of_below hb g none) (.inl rfl)
theorem keep_set {w W : World} {g b : Nat} (h : KeepBut w W g none) (hb : w.heap.size ≤ b) (j : Nat) (v : Value) : KeepBut w (W.setCell ⟨b, j, none⟩ v) g none :=
  ⟨by have := h.1; simpa using this, fun i hi hg hr => (heap_setCell_other W ⟨b, j, none⟩ i v (by show i ≠ b; omega)).trans (h.2 i hi hg hr)⟩
theorem keep_row {w W : World} {g b : Nat} (h : KeepBut w W g none) (hb : w.heap.size ≤ b) (cs : Array Value) : KeepBut w (W.setRow b cs) g none :=
  ⟨by have := h.1; simpa using this, fun i hi hg hr => (setRow_other W b i cs (by omega)).trans (h.2 i hi hg hr)⟩
theorem IsS100.row {w0 W : World} {g b : Nat} {f0 : List Int} {f1 f2 : Int} (h : IsS100 w0 W g f0 f1 f2) (hne : g ≠ b) (cs : Array Value) : IsS100 w0 (W.setRow b cs) g f0 f1 f2 := by
  obtain ⟨A0, c0, hb, hg, hr0⟩ := h
  exact ⟨A0, c0, (setRow_other W b g cs hne).trans hb, hg, hr0⟩
theorem set_all {P : Int → Prop} {l : List Int} (h : ∀ x ∈ l, P x) (j : Nat) {v : Int} (hv : P v) : ∀ x ∈ l.set j v, P x := fun x hx => by
  rcases List.mem_or_eq_of_mem_set hx with hx | rfl
  · exact h x hx
  · exact hv
theorem zer_all {P : Int → Prop} (n : Nat) (h : P 0) : ∀ x ∈ zer n, P x := fun x hx => by
  rw [show x = 0 from List.eq_of_mem_replicate hx]; exact h
theorem cells_w16 {x : Int} (h : 0 ≤ x ∧ x ≤ 400) : IntKind.i16.wrap x = x := by simp [IntKind.wrap, IntKind.bits, IntKind.signed]; omega
set_option maxHeartbeats 8000000 in
set_option maxRecDepth 100000 in
theorem spec_l03Cells.arr (g : Nat) (s : List Int) (at_ z : Int) (w0 w : World) (hI : IsS100 w0 w g s at_ z) (hB : Below w0.heap.size w0 w) (hs : ∀ x ∈ s, 0 ≤ x ∧ x ≤ 255) (ha : 0 ≤ at_ ∧ at_ ≤ 4611686018427380000) :
    Calls Tryz.prog 68 #[.pointer (some ⟨g, 0, none⟩)] w fun e w' => ∃ (xs : List Int) (b y : Int), e = .returned (.agg (nums .i16 xs).toArray) ∧ xs.length = 64 ∧ (∀ x ∈ xs, 0 ≤ x ∧ x ≤ 400) ∧ (at_ ≤ b ∧ b ≤ at_ + 100) ∧ IsS100 w0 w' g s b y ∧ Below w0.heap.size w0 w' ∧ KeepBut w w' g none := by
  have HS := Aside0.mk hs
  have HA := Aside0.mk ha
  have HG := Aside0.mk hI.lt
  have HWS := Aside0.mk hB.size
  have HO1 := Aside0.mk (arr_new2b w (.cells (nums .i16 (zer 64)).toArray 25) 25 .i16 (zer 64))
  have HO2 := Aside0.mk (HO1.out.row (ys := zer 64))
  have HZ2 := Aside0.mk ((arr_new2a w 25 .i16 (zer 64) (.cells (nums .i16 (zer 64)).toArray 25)).rowOther (c := w.heap.size + 1) (by omega) (nums .i16 (zer 64)).toArray)
  have hb2 := arr_below2 w (.cells (nums .i16 (zer 64)).toArray 25) (.cells (nums .i16 (zer 64)).toArray 25)
  have HI2 := Aside0.mk ((hI.below hb2).row (b := w.heap.size + 1) (by have := HG.out; omega) (nums .i16 (zer 64)).toArray)
  have HB2 := Aside0.mk (below_row (below_step hB hb2) (g := w.heap.size + 1) (by have := HWS.out; omega) (nums .i16 (zer 64)).toArray)
  have HK2 := Aside0.mk (keep_row (keep_below (KeepBut.refl w g none) hb2) (b := w.heap.size + 1) (by omega) (nums .i16 (zer 64)).toArray)
  have HS2 : Aside0 ((((w.alloc (.cells (nums .i16 (zer 64)).toArray 25)).alloc (.cells (nums .i16 (zer 64)).toArray 25)).setRow (w.heap.size + 1) (nums .i16 (zer 64)).toArray).heap.size = w.heap.size + 2) := ⟨by simp⟩
  have hb4 := (Below.refl (((w.alloc (.cells (nums .i16 (zer 64)).toArray 25)).alloc (.cells (nums .i16 (zer 64)).toArray 25)).setRow (w.heap.size + 1) (nums .i16 (zer 64)).toArray).heap.size (((w.alloc (.cells (nums .i16 (zer 64)).toArray 25)).alloc (.cells (nums .i16 (zer 64)).toArray 25)).setRow (w.heap.size + 1) (nums .i16 (zer 64)).toArray)).alloc (Nat.le_refl _) (.cells (nums .i16 (zer 4)).toArray 121)
  have HP3 := Aside0.mk (ArrAt.newAt HS2.out 121 .i16 (zer 4))
  have HP0 := Aside0.mk (HP3.out.row (ys := zer 4))
  have HZ0 := Aside0.mk ((HZ2.out.below hb4).rowOther (c := w.heap.size + 2) (by omega) (nums .i16 (zer 4)).toArray)
  have HO0 := Aside0.mk ((HO2.out.below hb4).rowOther (c := w.heap.size + 2) (by omega) (nums .i16 (zer 4)).toArray)
  have HI0 := Aside0.mk ((HI2.out.below hb4).row (b := w.heap.size + 2) (by have := HG.out; omega) (nums .i16 (zer 4)).toArray)
  have HB0 := Aside0.mk (below_row (below_step HB2.out hb4) (g := w.heap.size + 2) (by have := HWS.out; omega) (nums .i16 (zer 4)).toArray)
  have HK0 := Aside0.mk (keep_row (keep_below HK2.out hb4) (b := w.heap.size + 2) (by omega) (nums .i16 (zer 4)).toArray)
  clear hs ha hI hB hb2 hb4 HO2 HZ2 HI2 HB2 HK2
  go_enter Tryz.func68, Tryz.ntmps68
  go_wp2_with (first | (refine arr_store rfl 25 _ _ rfl (w.heap.size + 1) .i16 (zer 64) rfl rfl 25 (zer 64) HO1.out 64 (by kernel_rfl) (zer_len 64) (zer_len 64) ?_) | (refine arr_store rfl 121 _ _ rfl (w.heap.size + 2) .i16 (zer 4) rfl rfl 121 (zer 4) HP3.out 4 (by kernel_rfl) (zer_len 4) (zer_len 4) ?_))
  go_loopg [5] 4 (fun kq v5 w' => ∃ (i : Int) (ps : List Int) (a y : Int) (W : World), W = w' ∧ v5 = .int .i64 i ∧ Aside0 (0 ≤ i ∧ i + kq = 4) ∧ Aside0 (ps.length = 4) ∧ Aside0 (∀ x ∈ ps, 0 ≤ x ∧ x ≤ 400) ∧ Aside0 (at_ ≤ a ∧ a ≤ at_ + 2 * i) ∧ Aside0 (IsS100 w0 W g s a y) ∧
      Aside0 (ArrAt W w.heap.size 25 .i16 (zer 64)) ∧ Aside0 (ArrAt W (w.heap.size + 1) 25 .i16 (zer 64)) ∧ Aside0 (ArrAt W (w.heap.size + 2) 121 .i16 ps) ∧ Aside0 (Below w0.heap.size w0 W) ∧ Aside0 (KeepBut w W g none))
  case atStart => exact ⟨0, zer 4, at_, z, _, rfl, rfl, ⟨by omega⟩, ⟨zer_len 4⟩, ⟨zer_all 4 (by omega)⟩, ⟨by omega⟩, HI0, HZ0, HO0, HP0, HB0, HK0⟩
  case round =>
    clear HZ0 HO0 HP0 HI0 HB0 HK0
    obtain ⟨i, ps, a, y, W, rfl, rfl, HN, HPL, HPA, HAA, HI, HZ, HO, HP, HB, HK⟩ := hrel
    cases gk with
    | zero =>
      have hdec : decide (i < 4) = false := decide_eq_false (by have := HN.out; omega)
      have HA2 := Aside0.mk (show at_ ≤ a ∧ a ≤ at_ + 8 by have := HAA.out; have := HN.out; omega)
      clear HAA HN
      go_wp2_with fail
      go_loopg [6] 64 (fun kq v6 w' => ∃ (i : Int) (ys : List Int) (W : World), W = w' ∧ v6 = .int .i64 i ∧ Aside0 (0 ≤ i ∧ i + kq = 64) ∧ Aside0 (ys.length = 64) ∧ Aside0 (∀ x ∈ ys, 0 ≤ x ∧ x ≤ 400) ∧ Aside0 (IsS100 w0 W g s a y) ∧
          Aside0 (ArrAt W w.heap.size 25 .i16 (zer 64)) ∧ Aside0 (ArrAt W (w.heap.size + 1) 25 .i16 ys) ∧ Aside0 (ArrAt W (w.heap.size + 2) 121 .i16 ps) ∧ Aside0 (Below w0.heap.size w0 W) ∧ Aside0 (KeepBut w W g none))
      case atStart => exact ⟨0, zer 64, _, rfl, rfl, ⟨by omega⟩, ⟨zer_len 64⟩, ⟨zer_all 64 (by omega)⟩, HI, HZ, HO, HP, HB, HK⟩
      case round =>
        clear HZ HO HP HI HB HK
        obtain ⟨i, ys, W, rfl, rfl, HN, HYL, HYA, HI, HZ, HO, HP, HB, HK⟩ := hrel
        cases gk with
        | zero =>
          have hdec : decide (i < 64) = false := decide_eq_false (by have := HN.out; omega)
          obtain ⟨x, b, y2, e, hx0, hx1, hb0, hb1⟩ := DC.pick HS.out (a := a) (by have := HA.out; have := HA2.out; omega) y 4
          have HE := Aside0.mk e
          have HX := Aside0.mk (show 0 ≤ x ∧ x ≤ 3 by omega)
          have HBB := Aside0.mk (show at_ ≤ b ∧ b ≤ at_ + 10 by have := HA2.out; omega)
          clear e hx0 hx1 hb0 hb1 HN HA2 HP
          go_wp2_with fail
          refine (spec_l00Src_pick.calls g s a y 4 x b y2 w0 _ HI.out HB.out HE.out).mono ?_
          rintro e W1 ⟨rfl, hi1, hB1, hK1⟩
          have HI1 := Aside0.mk hi1
          have HB1 := Aside0.mk hB1
          have HZ1 := Aside0.mk (HZ.out.keep hK1 (by have := HG.out; omega))
          have HO1 := Aside0.mk (HO.out.keep hK1 (by have := HG.out; omega))
          have HK1 := Aside0.mk (HK.out.trans hK1 (.inl rfl))
          clear hi1 hB1 hK1 HI HB HZ HO HK HE
          go_wp2_with fail
          go_loopg [7] x.toNat (fun kq v7 w' => ∃ (n : Int) (ys : List Int) (a y : Int) (W : World), W = w' ∧ v7 = .int .i64 n ∧ Aside0 (n = kq ∧ n ≤ 3) ∧ Aside0 (ys.length = 64) ∧ Aside0 (∀ x ∈ ys, 0 ≤ x ∧ x ≤ 400) ∧ Aside0 (at_ ≤ a ∧ a ≤ at_ + 10 + 4 * (3 - n)) ∧ Aside0 (IsS100 w0 W g s a y) ∧
              Aside0 (ArrAt W w.heap.size 25 .i16 (zer 64)) ∧ Aside0 (ArrAt W (w.heap.size + 1) 25 .i16 ys) ∧ Aside0 (Below w0.heap.size w0 W) ∧ Aside0 (KeepBut w W g none))
          case atStart => exact ⟨x, ys, b, y2, _, rfl, rfl, ⟨by have := HX.out; omega⟩, HYL, HYA, ⟨by have := HX.out; have := HBB.out; omega⟩, HI1, HZ1, HO1, HB1, HK1⟩
          case round =>
            clear HZ1 HO1 HI1 HB1 HK1 HX HBB HYL HYA
            obtain ⟨n, ys, a, y, W, rfl, rfl, HN, HYL, HYA, HAA, HI, HZ, HO, HB, HK⟩ := hrel
            cases gk with
            | zero =>
              have hdec : decide (0 < n) = false := decide_eq_false (by have := HN.out; omega)
              have hdec2 : decide (n > 0) = false := hdec
              go_wp2_with (first | (refine arr_load rfl 25 _ rfl (w.heap.size + 1) rfl 25 .i16 ys HO.out _ Tryz.underlying25 rfl 64 (by kernel_rfl) HYL.out ?_) | (refine arr_store rfl 25 _ _ rfl w.heap.size .i16 ys rfl rfl 25 (zer 64) HZ.out 64 (by kernel_rfl) (zer_len 64) HYL.out ?_))
              refine bodyPost_ret (results_cell_row rfl _ _ w.heap.size 25 (nums .i16 ys).toArray (0, 0) _ rfl HZ.out.row Tryz.underlying25 rfl (by rw [show (Array.size (nums .i16 ys).toArray) = 64 by simp [nums, HYL.out]]; kernel_rfl)) rfl ?_
              exact ⟨ys, a, y, rfl, HYL.out, HYA.out, by have := HAA.out; have := HN.out; omega, HI.out.row (by have := HG.out; omega) _, below_row HB.out (by have := HWS.out; omega) _, keep_row HK.out (by omega) _⟩
            | succ k1 =>
              have hdec : decide (0 < n) = true := decide_eq_true (by have := HN.out; omega)
              have hdec2 : decide (n > 0) = true := hdec
              have hw1 : wrap64 (n - 1) = n - 1 := by have := HN.out; unfold wrap64; omega
              obtain ⟨j, b, y2, e, hj0, hj1, hb0, hb1⟩ := DC.pick HS.out (a := a) (by have := HA.out; have := HAA.out; have := HN.out; omega) y 64
              have HJ := Aside0.mk (show 0 ≤ j ∧ j < 64 by omega)
              have HE := Aside0.mk e
              have HBB := Aside0.mk (show a ≤ b ∧ b ≤ a + 2 from ⟨hb0, hb1⟩)
              obtain ⟨v, c, y3, e3, hv0, hv1, hc0, hc1⟩ := DC.pick HS.out (a := b) (by have := HA.out; have := HAA.out; have := HN.out; omega) y2 401
              have HV := Aside0.mk (show 0 ≤ v ∧ v ≤ 400 by omega)
              have HE3 := Aside0.mk e3
              have HCC := Aside0.mk (show b ≤ c ∧ c ≤ b + 2 from ⟨hc0, hc1⟩)
              clear e hj0 hj1 hb0 hb1 e3 hv0 hv1 hc0 hc1
              go_wp2_with fail
              refine (spec_l00Src_pick.calls g s a y 64 j b y2 w0 _ HI.out HB.out HE.out).mono ?_
              rintro e W1 ⟨rfl, hi1, hB1, hK1⟩
              have HI1 := Aside0.mk hi1
              have HB1 := Aside0.mk hB1
              have HZ1 := Aside0.mk (HZ.out.keep hK1 (by have := HG.out; omega))
              have HO1 := Aside0.mk (HO.out.keep hK1 (by have := HG.out; omega))
              have HK1 := Aside0.mk (HK.out.trans hK1 (.inl rfl))
              clear hi1 hB1 hK1 HI HB HZ HO HK HE
              go_wp2_with fail
              refine (spec_l00Src_pick.calls g s b y2 401 v c y3 w0 _ HI1.out HB1.out HE3.out).mono ?_
              rintro e W2 ⟨rfl, hi1, hB1, hK1⟩
              have HI2 := Aside0.mk hi1
              have HB2 := Aside0.mk hB1
              have HZ2 := Aside0.mk (HZ1.out.keep hK1 (by have := HG.out; omega))
              have HO2 := Aside0.mk (HO1.out.keep hK1 (by have := HG.out; omega))
              have HK2 := Aside0.mk (HK1.out.trans hK1 (.inl rfl))
              clear hi1 hB1 hK1 HI1 HB1 HZ1 HO1 HK1 HE3
              have q0 := HJ.out.1
              have q1 := HJ.out.2
              have c2 : W2.cell? ⟨w.heap.size + 1, j.toNat, none⟩ = some (.int .i16 (rd ys j)) := HO2.out.cell q0 (by rw [HYL.out]; omega)
              have f2 := HO2.out.frozen j.toNat
              have hw16 := cells_w16 HV.out
              go_wp2_with fail
              go_roundg k1
              case measure => omega
              case rel =>
                refine ⟨n - 1, ys.set j.toNat v, c, y3, _, rfl, congrArg (Value.int IntKind.i64) hw1, ⟨by have := HN.out; omega⟩, ⟨by simpa using HYL.out⟩, ⟨set_all HYA.out _ HV.out⟩, ⟨by have := HAA.out; have := HBB.out; have := HCC.out; omega⟩, ⟨HI2.out.far (by have := HG.out; show g ≠ w.heap.size + 1; omega) _⟩,
                  ⟨HZ2.out.other (by omega) _ _⟩, ⟨HO2.out.set j v⟩, ⟨below_set HB2.out (by have := HWS.out; omega)⟩, ⟨keep_set HK2.out (by omega) _ _⟩⟩
        | succ k1 =>
          have h0 := HN.out.1
          have hi : i < 64 := by have := HN.out.2; omega
          have hdec : decide (i < 64) = true := decide_eq_true hi
          have q0 : 0 ≤ i % 8 / 4 + i / 32 * 2 := by omega
          have q1 : i % 8 / 4 + i / 32 * 2 < 4 := by omega
          have c1 : W.cell? ⟨w.heap.size + 2, (i % 8 / 4 + i / 32 * 2).toNat, none⟩ = some (.int .i16 (rd ps (i % 8 / 4 + i / 32 * 2))) := HP.out.cell q0 (by rw [HPL.out]; omega)
          have c2 : W.cell? ⟨w.heap.size + 1, i.toNat, none⟩ = some (.int .i16 (rd ys i)) := HO.out.cell h0 (by rw [HYL.out]; omega)
          have f2 := HO.out.frozen i.toNat
          have HV := Aside0.mk (arr_rd (P := fun x => 0 ≤ x ∧ x ≤ 400) HPA.out q0 (by rw [HPL.out]; omega))
          go_wp2_with fail
          go_roundg k1
          case measure => omega
          case rel =>
            refine ⟨i + 1, ys.set i.toNat _, _, rfl, rfl, ⟨by have := HN.out; omega⟩, ⟨by simpa using HYL.out⟩, ⟨set_all HYA.out _ HV.out⟩, ⟨HI.out.far (by have := HG.out; show g ≠ w.heap.size + 1; omega) _⟩,
              ⟨HZ.out.other (by omega) _ _⟩, ⟨HO.out.set i _⟩, ⟨HP.out.other (by omega) _ _⟩, ⟨below_set HB.out (by have := HWS.out; omega)⟩, ⟨keep_set HK.out (by omega) _ _⟩⟩
    | succ k1 =>
      have h0 := HN.out.1
      have hi : i < 4 := by have := HN.out.2; omega
      have hdec : decide (i < 4) = true := decide_eq_true hi
      obtain ⟨x, b, y2, e, hx0, hx1, hb0, hb1⟩ := DC.pick HS.out (a := a) (by have := HA.out; have := HAA.out; omega) y 256
      have HE := Aside0.mk e
      have HX := Aside0.mk (show 0 ≤ x ∧ x ≤ 400 by omega)
      have HBB := Aside0.mk (show a ≤ b ∧ b ≤ a + 2 from ⟨hb0, hb1⟩)
      clear e hx0 hx1 hb0 hb1
      go_wp2_with fail
      refine (spec_l00Src_pick.calls g s a y 256 x b y2 w0 _ HI.out HB.out HE.out).mono ?_
      rintro e W1 ⟨rfl, hi1, hB1, hK1⟩
      have HI1 := Aside0.mk hi1
      have HB1 := Aside0.mk hB1
      have HZ1 := Aside0.mk (HZ.out.keep hK1 (by have := HG.out; omega))
      have HO1 := Aside0.mk (HO.out.keep hK1 (by have := HG.out; omega))
      have HP1 := Aside0.mk (HP.out.keep hK1 (by have := HG.out; omega))
      have HK1 := Aside0.mk (HK.out.trans hK1 (.inl rfl))
      clear hi1 hB1 hK1 HI HB HZ HO HP HK HE
      have c2 : W1.cell? ⟨w.heap.size + 2, i.toNat, none⟩ = some (.int .i16 (rd ps i)) := HP1.out.cell h0 (by rw [HPL.out]; omega)
      have f2 := HP1.out.frozen i.toNat
      have hw16 := cells_w16 HX.out
      go_wp2_with fail
      go_roundg k1
      case measure => omega
      case rel =>
        refine ⟨i + 1, ps.set i.toNat x, b, y2, _, rfl, rfl, ⟨by have := HN.out; omega⟩, ⟨by simpa using HPL.out⟩, ⟨set_all HPA.out _ HX.out⟩, ⟨by have := HAA.out; have := HBB.out; omega⟩, ⟨HI1.out.far (by have := HG.out; show g ≠ w.heap.size + 2; omega) _⟩,
          ⟨HZ1.out.other (by omega) _ _⟩, ⟨HO1.out.other (by omega) _ _⟩, ⟨HP1.out.set i x⟩, ⟨below_set HB1.out (by have := HWS.out; omega)⟩, ⟨keep_set HK1.out (by omega) _ _⟩⟩
set_option maxHeartbeats 8000000 in
set_option maxRecDepth 100000 in
theorem spec_l03Drawn.arr (g : Nat) (s : List Int) (at_ z : Int) (w0 w : World) (hI : IsS100 w0 w g s at_ z) (hB : Below w0.heap.size w0 w) (hs : ∀ x ∈ s, 0 ≤ x ∧ x ≤ 255) (ha : 0 ≤ at_ ∧ at_ ≤ 4611686018427380000) :
    Calls Tryz.prog 30 #[.pointer (some ⟨g, 0, none⟩)] w fun e w' => ∃ (xs : List Int) (b y : Int), e = .returned (.agg (nums .i16 xs).toArray) ∧ xs.length = 64 ∧ (∀ x ∈ xs, 0 ≤ x ∧ x ≤ 400) ∧ (at_ ≤ b ∧ b ≤ at_ + 100) ∧ IsS100 w0 w' g s b y ∧ Below w0.heap.size w0 w' ∧ KeepBut w w' g none := by
  have HG := Aside0.mk hI.lt
  have HWS := Aside0.mk hB.size
  have hb1 := (Below.refl w.heap.size w).alloc (Nat.le_refl _) (.cells (nums .i16 (zer 64)).toArray 26)
  have HZ := Aside0.mk (ArrAt.new w 26 .i16 (zer 64))
  have HI := Aside0.mk (hI.below hb1)
  have HB := Aside0.mk (below_step hB hb1)
  have HK := Aside0.mk (keep_below (KeepBut.refl w g none) hb1)
  clear hI hB hb1
  go_enter Tryz.func30, Tryz.ntmps30
  go_wp2_with fail
  refine (spec_l03Cells.arr g s at_ z w0 _ HI.out HB.out hs ha).mono ?_
  rintro e W1 ⟨xs, b, y, rfl, hxl, hxa, hab, hi1, hB1, hK1⟩
  have HZ1 := Aside0.mk (HZ.out.keep hK1 (by have := HG.out; omega))
  have HK1 := Aside0.mk (HK.out.trans hK1 (.inl rfl))
  have HI1 := Aside0.mk hi1
  have HB1 := Aside0.mk hB1
  have HL := Aside0.mk hxl
  have HX := Aside0.mk hxa
  have HAB := Aside0.mk hab
  clear hK1 hi1 hB1 hxl hxa hab HZ HK HI HB
  go_wp2_with (first | (refine arr_store rfl 26 _ _ rfl w.heap.size .i16 xs rfl rfl 26 (zer 64) HZ1.out 64 (by kernel_rfl) (zer_len 64) HL.out ?_))
  refine bodyPost_ret (results_cell_row rfl _ _ w.heap.size 26 (nums .i16 xs).toArray (0, 0) _ rfl HZ1.out.row Tryz.underlying26 rfl (by rw [show (Array.size (nums .i16 xs).toArray) = 64 by simp [nums, HL.out]]; kernel_rfl)) rfl ?_
  exact ⟨xs, b, y, rfl, HL.out, HX.out, HAB.out, HI1.out.row (by have := HG.out; omega) _, below_row HB1.out (by have := HWS.out; omega) _, keep_row HK1.out (by omega) _⟩
set_option maxHeartbeats 8000000 in
set_option maxRecDepth 100000 in
theorem spec_P6Negative.arr (A0 : Option Addr) (c0 : Nat) (l0 : List Int) (w : World) (hr0 : Kd.C (Kd.int .u8) w A0 l0.length l0) (hc0 : l0.length ≤ c0) (hs : ∀ x ∈ l0, 0 ≤ x ∧ x ≤ 255) :
    Calls Tryz.prog 5 #[.slice A0 l0.length c0] w fun e w' => ∃ (xs : List Int), e = .returned (.agg (nums .i16 xs).toArray) ∧ xs.length = 64 ∧ (∀ x ∈ xs, 0 ≤ x ∧ x ≤ 400) ∧ Below w.heap.size w w' := by
  have HR := Aside0.mk hr0
  have HC := Aside0.mk hc0
  have HS := Aside0.mk hs
  have hb1 := (Below.refl w.heap.size w).alloc (Nat.le_refl _) (.cells (nums .i16 (zer 64)).toArray 26)
  have HZ := Aside0.mk (ArrAt.new w 26 .i16 (zer 64))
  have HB := Aside0.mk hb1
  clear hr0 hc0 hs hb1
  go_enter Tryz.func5, Tryz.ntmps5
  go_wp2_with fail
  refine (spec_l00From.calls A0 c0 l0 l0 0 0 w _ HB.out HR.out HC.out rfl).mono ?_
  rintro e W1 ⟨g, rfl, hi1, hB1, hb⟩
  have HI1 := Aside0.mk hi1
  have HB1 := Aside0.mk hB1
  have HZ1 := Aside0.mk (HZ.out.below hb)
  have HG := Aside0.mk (hi1.ne_blk HZ1.out (by decide))
  clear hi1 hB1 hb HZ HB
  go_wp2_with fail
  refine (spec_l03Drawn.arr g l0 0 0 w _ HI1.out HB1.out HS.out (by omega)).mono ?_
  rintro e W2 ⟨xs, b, y, rfl, hxl, hxa, hab, hi1, hB1, hK1⟩
  have HZ2 := Aside0.mk (HZ1.out.keep hK1 (fun e => HG.out e.symm))
  have HB2 := Aside0.mk hB1
  have HL := Aside0.mk hxl
  have HX := Aside0.mk hxa
  clear hK1 hi1 hB1 hxl hxa hab HI1 HB1 HZ1
  go_wp2_with (first | (refine arr_store rfl 26 _ _ rfl w.heap.size .i16 xs rfl rfl 26 (zer 64) HZ2.out 64 (by kernel_rfl) (zer_len 64) HL.out ?_))
  refine bodyPost_ret (results_cell_row rfl _ _ w.heap.size 26 (nums .i16 xs).toArray (0, 0) _ rfl HZ2.out.row Tryz.underlying26 rfl (by rw [show (Array.size (nums .i16 xs).toArray) = 64 by simp [nums, HL.out]]; kernel_rfl)) rfl ?_
  exact ⟨xs, rfl, HL.out, HX.out, below_row HB2.out (Nat.le_refl _) _⟩
end Go.Proofs.YtjonocgmofcieaaGreatDoor.Q
