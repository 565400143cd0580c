-- Prints of negatives.
import Derived.Test.YtjonocgmofcieaaGreatDoorQx5
import Derived.Test.YtjonocgmofcieaaGreatDoorQx7
import Derived.Test.YtjonocgmofcieaaGreatDoorQx8
import Derived.Test.YtjonocgmofcieaaGreatDoorQx10
import Derived.Test.YtjonocgmofcieaaGreatDoorArrTimes
import Derived.Test.YtjonocgmofcieaaGreatDoorArrDense
import Derived.Test.YtjonocgmofcieaaGreatDoorQx13
import Derived.Test.YtjonocgmofcieaaGreatDoorQx14
import Derived.Test.YtjonocgmofcieaaGreatDoorQx15
import Derived.Test.YtjonocgmofcieaaGreatDoorArrPL
namespace Go.Proofs.YtjonocgmofcieaaGreatDoor.Q
open Go.RowKit Go.Proofs.YtjonocgmofcieaaGreatDoor.PL Go.Proofs.YtjonocgmofcieaaGreatDoorW.PrintWords Go.Proofs.YtjonocgmofcieaaGreatDoorW.PrintLast Go.Proofs.YtjonocgmofcieaaGreatDoorW.PrintMore
attribute [local go_sem] max2_int min2_int max_two min_two max_three min_three max_four min_four
set_option linter.unusedVariables false
set_option linter.unusedSimpArgs false
def tab (n : Nat) (f : Int → Int) : List Int := (List.range n).map (fun k : Nat => f (k : Int))
theorem tab_len (n : Nat) (f : Int → Int) : (tab n f).length = n := by simp [tab]
theorem rd_tab {n : Nat} {f : Int → Int} {i : Int} (h0 : 0 ≤ i) (h1 : i < n) : rd (tab n f) i = f i := by
  unfold tab
  rw [show rd ((List.range n).map (fun k : Nat => f (k : Int))) i = ((List.range n).map (fun k : Nat => f (k : Int)))[i.toNat]'(by simp; omega) by unfold rd; rw [List.getD_eq_getElem?_getD, List.getElem?_eq_getElem (by simp; omega)]; rfl]
  simp [show ((i.toNat : Nat) : Int) = i by omega]
/-- a cell's density: the negative's density, the paper, the light -/
def D_cell (l : List S102) (den light : Int) : Int := if light < 0 then D_at l (-200) else D_at l (light - (den + 5) / 10)
theorem L_printed {l : List S102} (h : D_curve l = true) {den light : Int} (hd : 0 ≤ den ∧ den ≤ 400) (hl : -1 ≤ light ∧ light ≤ 36) {k : Nat} (hk : 13 ≤ k) :
    spec_l03Printed.f k den l light = some (D_cell l den light) ∧ (0 ≤ light → impl_Curve_shade.f k l light den = some (D_cell l den light)) ∧ (light < 0 → impl_Curve_at.f k l (-200) = some (D_cell l den light)) ∧ (0 ≤ D_cell l den light ∧ D_cell l den light ≤ 400) := by
  by_cases hn : light < 0
  · obtain ⟨a1, a2, a3, a4⟩ := L_at h (x := -200) hk
    unfold spec_l03Printed.f D_cell
    rw [if_pos hn, if_pos hn, a1]
    simp only [Option.bind_some]
    rw [L_w16 (x := D_at l (-200)) (by omega)]
    exact ⟨rfl, fun h => by omega, fun _ => a2, a3, a4⟩
  · obtain ⟨a1, a2, a3, a4⟩ := L_at h (x := light - (den + 5) / 10) hk
    unfold spec_l03Printed.f spec_l03Held.f impl_Curve_shade.f D_cell
    rw [if_neg hn, if_neg hn, L_w (x := den) (by omega), L_w (x := den + 5) (by omega), Int.tdiv_eq_ediv_of_nonneg (by omega), L_w (x := (den + 5) / 10) (by omega)]
    simp only [Option.bind_some]
    rw [L_w (x := light - (den + 5) / 10) (by omega), a1, a2]
    simp only [Option.bind_some]
    rw [L_w16 (by omega)]
    exact ⟨rfl, fun _ => rfl, fun h => absurd h hn, a3, a4⟩
def D_from (xs : List Int) (l : List S102) (st : List S55) : List Int := tab 64 (fun k => D_cell l (rd xs k) (rd (D_light st) k))
theorem D_fromLen (xs : List Int) (l : List S102) (st : List S55) : (D_from xs l st).length = 64 := tab_len _ _
theorem D_light_range (st : List S55) {i : Int} (h0 : 0 ≤ i) (h1 : i < 64) : -1 ≤ rd (D_light st) i ∧ rd (D_light st) i ≤ 36 := by
  rw [D_light_rd st h0 h1]; have := L_inSpec (rd (D_times st) i); omega
def D_printOk (xs : List Int) (l : List S102) (st : List S55) : Prop := D_dense xs ∧ D_curve l = true ∧ D_steps st
instance (xs : List Int) (l : List S102) (st : List S55) : Decidable (D_printOk xs l st) := by unfold D_printOk; infer_instance
def D_printFrom (xs : List Int) (l : List S102) (st : List S55) : List Int × Int := if D_printOk xs l st then (D_from xs l st, 0) else (zer 64, 1)
theorem D_printFrom_len (xs : List Int) (l : List S102) (st : List S55) : (D_printFrom xs l st).1.length = 64 := by unfold D_printFrom; split <;> simp [D_fromLen, zer]
theorem D_fromDense {xs : List Int} {l : List S102} (hd : D_dense xs) (hx : xs.length = 64) (hc : D_curve l = true) (st : List S55) : D_dense (D_from xs l st) := by
  intro x hx'
  unfold D_from tab at hx'
  simp only [List.mem_map, List.mem_range] at hx'
  obtain ⟨k, hk, rfl⟩ := hx'
  exact (L_printed hc (arr_rd (P := fun x => 0 ≤ x ∧ x ≤ 400) hd (by omega) (by omega)) (D_light_range st (by omega) (by omega)) (Nat.le_refl 13)).2.2.2
set_option maxHeartbeats 8000000 in
set_option maxRecDepth 100000 in
theorem spec_l03From.arr (g : Nat) (xs : List Int) (hl : xs.length = 64) (A1 : Option Addr) (c1 : Nat) (l : List S102) (A2 : Option Addr) (c2 : Nat) (st : List S55) (w : World) (hr1 : Kd.C k102 w A1 l.length l) (hc1 : l.length ≤ c1) (hr2 : Kd.C k55 w A2 st.length st) (hc2 : st.length ≤ c2) (hA : ArrAt w g 26 .i16 xs) (hd : D_dense xs) (hcv : D_curve l = true) (hth : ∀ x ∈ st, 0 ≤ x.f1 ∧ x.f1 ≤ 36) :
    Calls Tryz.prog 40 #[.pointer (some ⟨g, 0, none⟩), .slice A1 l.length c1, .slice A2 st.length c2] w fun e w' => e = .returned (.agg (nums .i16 (D_from xs l st)).toArray) ∧ Below w.heap.size w w' := by
  have HX := Aside0.mk hl
  have HR1 := Aside0.mk hr1
  have HC1 := Aside0.mk hc1
  have HR2 := Aside0.mk hr2
  have HC2 := Aside0.mk hc2
  have HD := Aside0.mk hd
  have HCV := Aside0.mk hcv
  have HT := Aside0.mk hth
  have HGW := Aside0.mk hA.lt
  have hba := (Below.refl w.heap.size w).alloc (Nat.le_refl _) (.cells (nums .i16 (zer 64)).toArray 33)
  have HA0 := Aside0.mk (hA.below hba)
  have HZ0 := Aside0.mk (ArrAt.new w 33 .i16 (zer 64))
  have HB0 := Aside0.mk hba
  clear hl hr1 hc1 hr2 hc2 hd hcv hth hA hba
  go_enter Tryz.func40, Tryz.ntmps40
  go_wp2_with fail
  refine (spec_l03Light.arr A2 c2 st _ (Kd.C_below HR2.out HB0.out) HC2.out HT.out).mono ?_
  rintro e w1 ⟨rfl, hb⟩
  obtain ⟨L, hL⟩ : ∃ L, L = D_light st := ⟨_, rfl⟩
  have HL := Aside0.mk (show L.length = 64 by rw [hL]; exact D_lightLen st)
  have HLR := Aside0.mk (fun (i : Int) (h0 : 0 ≤ i) (h1 : i < 64) => show -1 ≤ rd L i ∧ rd L i ≤ 36 by rw [hL]; exact D_light_range st h0 h1)
  have HF := Aside0.mk (show D_from xs l st = tab 64 (fun k => D_cell l (rd xs k) (rd L k)) by rw [hL]; rfl)
  rw [← hL]
  have HA1 := Aside0.mk (HA0.out.below hb)
  have HZ1 := Aside0.mk (HZ0.out.below hb)
  have HB1 := Aside0.mk (below_step HB0.out hb)
  have HG := Aside0.mk (show w.heap.size < w1.heap.size from HZ1.out.lt)
  clear hb HA0 HZ0 HB0 hL
  have HQ1 := Aside0.mk (ArrAt.new w1 40 .i64 (zer 64))
  obtain ⟨W2, hW2⟩ : ∃ W2, W2 = (w1.alloc (.cells (nums .i64 (zer 64)).toArray 40)).setRow w1.heap.size (nums .i64 L).toArray := ⟨_, rfl⟩
  have hs2 : W2.heap.size = w1.heap.size + 1 := by rw [hW2]; simp [World.setRow]
  have hb2 : Below w1.heap.size w1 W2 := by rw [hW2]; exact below_row (below_alloc (Below.refl w1.heap.size w1) _) (Nat.le_refl _) _
  have HQ2 := Aside0.mk (show ArrAt W2 w1.heap.size 40 .i64 L by rw [hW2]; exact HQ1.out.row)
  have HP2 := Aside0.mk (ArrAt.newAt (W := W2) hs2 33 .i16 (zer 64))
  have hb3 := below_row (below_alloc (Below.refl W2.heap.size W2) (.cells (nums .i16 (zer 64)).toArray 33)) (show W2.heap.size ≤ w1.heap.size + 1 by omega) (nums .i16 (zer 64)).toArray
  have HA3 := Aside0.mk ((HA1.out.below hb2).below hb3)
  have HZ3 := Aside0.mk ((HZ1.out.below hb2).below hb3)
  have HQ3 := Aside0.mk (HQ2.out.below hb3)
  have HB3 := Aside0.mk (below_step (below_step HB1.out hb2) hb3)
  have HP3 := Aside0.mk (HP2.out.row (ys := zer 64))
  have HW2 := Aside0.mk hW2
  clear hb2 hb3 hW2 HA1 HZ1 HB1
  go_wp2_with (first | (refine arr_store rfl 40 _ _ rfl w1.heap.size .i64 L rfl rfl 40 (zer 64) HQ1.out 64 (by kernel_rfl) (zer_len 64) HL.out ?_; erw [← HW2.out]) | (refine arr_store rfl 33 _ _ rfl (w1.heap.size + 1) .i16 (zer 64) rfl rfl 33 (zer 64) HP2.out 64 (by kernel_rfl) (zer_len 64) (zer_len 64) ?_))
  go_loopg [9] 64 (fun kq v9 w' => ∃ (i : Int) (ys : List Int) (W : World), W = w' ∧ v9 = .int .i64 i ∧ Aside0 (0 ≤ i ∧ i + kq = 64) ∧ Aside0 (ys.length = 64 ∧ ys.take i.toNat = (D_from xs l st).take i.toNat) ∧
      Aside0 (ArrAt W g 26 .i16 xs) ∧ Aside0 (ArrAt W w1.heap.size 40 .i64 L) ∧ Aside0 (ArrAt W (w1.heap.size + 1) 33 .i16 ys) ∧ Aside0 (ArrAt W w.heap.size 33 .i16 (zer 64)) ∧ Aside0 (Below w.heap.size w W))
  case atStart => exact ⟨0, zer 64, _, rfl, rfl, ⟨by omega⟩, ⟨zer_len 64, by simp⟩, HA3, HQ3, HP3, HZ3, HB3⟩
  case round =>
    clear HA3 HQ3 HP3 HZ3 HB3 HQ1 HP2 HQ2 HW2 hs2
    obtain ⟨i, ys, W, rfl, rfl, HI, HY, HA, HQ, HP, HZ, HB⟩ := hrel
    cases gk with
    | zero =>
      have hdec : decide (i < 64) = false := decide_eq_false (by have := HI.out; omega)
      have HL2 := Aside0.mk HY.out.1
      have hys : ys = D_from xs l st := by
        have := HY.out.2
        rw [List.take_of_length_le (by have := HI.out; have := HY.out.1; omega), List.take_of_length_le (by have := HI.out; have := D_fromLen xs l st; omega)] at this
        exact this
      have HYS := Aside0.mk hys
      clear hys
      go_wp2_with (first | (refine arr_load rfl 33 _ rfl (w1.heap.size + 1) rfl 33 .i16 ys HP.out _ Tryz.underlying33 rfl 64 (by kernel_rfl) HL2.out ?_) | (refine arr_store rfl 33 _ _ rfl w.heap.size .i16 ys rfl rfl 33 (zer 64) HZ.out 64 (by kernel_rfl) (zer_len 64) HL2.out ?_))
      refine bodyPost_ret (results_cell_row rfl _ _ w.heap.size 33 (nums .i16 ys).toArray (0, 0) _ rfl HZ.out.row Tryz.underlying33 rfl (by rw [show (Array.size (nums .i16 ys).toArray) = 64 by simp [nums, HL2.out]]; kernel_rfl)) rfl ?_
      exact ⟨by rw [← HYS.out], below_row HB.out (Nat.le_refl _) _⟩
    | succ k1 =>
      have h0 := HI.out.1
      have hi : i < 64 := by have := HI.out.2; omega
      have HX1 := Aside0.mk ((L_printed HCV.out (arr_rd (P := fun x => 0 ≤ x ∧ x ≤ 400) HD.out h0 (by rw [HX.out]; omega)) (HLR.out i h0 hi) (Nat.le_refl 13)).1)
      have c1 : W.cell? ⟨g, i.toNat, none⟩ = some (.int .i16 (rd xs i)) := HA.out.cell h0 (by rw [HX.out]; omega)
      have c2 : W.cell? ⟨w1.heap.size, i.toNat, none⟩ = some (.int .i64 (rd L i)) := HQ.out.cell h0 (by rw [HL.out]; omega)
      have d1 : W.drew.cell? ⟨g, i.toNat, none⟩ = some (.int .i16 (rd xs i)) := by simpa using c1
      have d2 : W.drew.cell? ⟨w1.heap.size, i.toNat, none⟩ = some (.int .i64 (rd L i)) := by simpa using c2
      go_wp2_with fail
      refine wp_region_held_drew (S := fun w' => w'.cell? ⟨g, i.toNat, none⟩ = some (.int .i16 (rd xs i)) ∧ w'.cell? ⟨w1.heap.size, i.toNat, none⟩ = some (.int .i64 (rd L i))) (by kernel_rfl) ⟨d1, d2⟩ (fun hHeld => ?_)
      refine wpAnyH_take (i := 0) (v := ?_) rfl (by kernel_rfl) (by kernel_rfl) (by kernel_rfl) (fun _ _ _ h => h) (Or.inl ⟨by rfl, ?_⟩) (by assumption) ?_
      rotate_left
      · intro w hSw
        go_simp
        with_reducible rfl
      try simp only [List.getElem_toArray, List.getElem_cons_succ, List.getElem_cons_zero, Act.put, List.setIfInBounds_toArray, List.set_cons_zero, List.set_cons_succ]
      refine wpAnyH_take (i := 1) (v := ?_) rfl (by kernel_rfl) (by kernel_rfl) (by kernel_rfl) (fun _ _ _ h => h) (Or.inl ⟨by rfl, ?_⟩) (by assumption) ?_
      rotate_left
      · intro w hSw
        go_simp
        with_reducible rfl
      try simp only [List.getElem_toArray, List.getElem_cons_succ, List.getElem_cons_zero, Act.put, List.setIfInBounds_toArray, List.set_cons_zero, List.set_cons_succ]
      refine wpAnyH_take (i := 2) (v := ?_) rfl (by kernel_rfl) (by kernel_rfl) (by kernel_rfl) (fun _ _ _ h => h) (Or.inl ⟨by rfl, ?_⟩) (by assumption) ?_
      rotate_left
      · intro w hSw
        go_simp
        with_reducible rfl
      try simp only [List.getElem_toArray, List.getElem_cons_succ, List.getElem_cons_zero, Act.put, List.setIfInBounds_toArray, List.set_cons_zero, List.set_cons_succ]
      refine wpAnyH_take (i := 3) (v := ?_) rfl (by kernel_rfl) (by kernel_rfl) (by kernel_rfl) (fun _ _ _ h => h) (Or.inl ⟨by rfl, ?_⟩) (by assumption) ?_
      rotate_left
      · intro w hSw
        go_simp
        with_reducible rfl
      try simp only [List.getElem_toArray, List.getElem_cons_succ, List.getElem_cons_zero, Act.put, List.setIfInBounds_toArray, List.set_cons_zero, List.set_cons_succ]
      refine wpAnyH_take (i := 4) (v := ?_) rfl (by kernel_rfl) (by kernel_rfl) (by kernel_rfl) (fun _ _ _ h => h) (Or.inl ⟨by rfl, ?_⟩) (by assumption) ?_
      rotate_left
      · intro w hSw
        go_simp
        with_reducible rfl
      try simp only [List.getElem_toArray, List.getElem_cons_succ, List.getElem_cons_zero, Act.put, List.setIfInBounds_toArray, List.set_cons_zero, List.set_cons_succ]
      refine wpAnyH_take (i := 5) (v := ?_) rfl (by kernel_rfl) (by kernel_rfl) (by kernel_rfl) (fun _ _ _ h => h) (Or.inl ⟨by rfl, ?_⟩) (by assumption) ?_
      rotate_left
      · intro w hSw
        go_simp
        with_reducible rfl
      try simp only [List.getElem_toArray, List.getElem_cons_succ, List.getElem_cons_zero, Act.put, List.setIfInBounds_toArray, List.set_cons_zero, List.set_cons_succ]
      refine wpAnyH_take (i := 6) (v := ?_) rfl (by kernel_rfl) (by kernel_rfl) (by kernel_rfl) (fun _ _ _ h => h) (Or.inl ⟨by rfl, ?_⟩) (by assumption) ?_
      rotate_left
      · intro w hSw
        go_simp
        with_reducible rfl
      try simp only [List.getElem_toArray, List.getElem_cons_succ, List.getElem_cons_zero, Act.put, List.setIfInBounds_toArray, List.set_cons_zero, List.set_cons_succ]
      refine wpAnyH_take (i := 7) (v := ?_) rfl (by kernel_rfl) (by kernel_rfl) (by kernel_rfl) (fun _ _ _ h => h) (Or.inl ⟨by rfl, ?_⟩) (by assumption) ?_
      rotate_left
      · intro w hSw
        go_simp
        with_reducible rfl
      try simp only [List.getElem_toArray, List.getElem_cons_succ, List.getElem_cons_zero, Act.put, List.setIfInBounds_toArray, List.set_cons_zero, List.set_cons_succ]
      refine wpAnyH_take (i := 8) (v := ?_) rfl (by kernel_rfl) (by kernel_rfl) (by kernel_rfl) (fun _ _ _ h => h) (Or.inl ⟨by rfl, ?_⟩) (by assumption) ?_
      rotate_left
      · intro w hSw
        go_simp
        with_reducible rfl
      try simp only [List.getElem_toArray, List.getElem_cons_succ, List.getElem_cons_zero, Act.put, List.setIfInBounds_toArray, List.set_cons_zero, List.set_cons_succ]
      refine wpAnyH_take (i := 9) (v := ?_) rfl (by kernel_rfl) (by kernel_rfl) (by kernel_rfl) (fun _ _ _ h => h) (Or.inl ⟨by rfl, ?_⟩) (by assumption) ?_
      rotate_left
      · intro w hSw
        go_simp
        with_reducible rfl
      try simp only [List.getElem_toArray, List.getElem_cons_succ, List.getElem_cons_zero, Act.put, List.setIfInBounds_toArray, List.set_cons_zero, List.set_cons_succ]
      refine wpAnyH_ready (rs := [10]) (by kernel_rfl) (by simp) ?_
      refine AllReadyH.cons rfl (fun K hK => ?_) AllReadyH.nil
      go_simp
      refine (spec_l03Printed.calls 13 _ _ _ l _ _ _ (Kd.C_below HR1.out (below_drew1 HB.out)) HC1.out HX1.out).mono ?_
      rintro e w2 ⟨rfl, hb⟩
      have HB2 := Aside0.mk (below_step (below_drew1 HB.out) hb)
      have HA2 := Aside0.mk (ArrAt.below (W := W.drew) HA.out hb)
      have HQ2 := Aside0.mk (ArrAt.below (W := W.drew) HQ.out hb)
      have HP2 := Aside0.mk (ArrAt.below (W := W.drew) HP.out hb)
      have HZ2 := Aside0.mk (ArrAt.below (W := W.drew) HZ.out hb)
      clear hb c1 c2 d1 d2
      go_wp2_with fail
      refine hK.out _ _ ⟨HA2.out.cell h0 (by rw [HX.out]; omega), HQ2.out.cell h0 (by rw [HL.out]; omega)⟩ (fun hHeld => ?_)
      clear hK K
      try simp only [List.getElem_toArray, List.getElem_cons_succ, List.getElem_cons_zero, Act.put, List.setIfInBounds_toArray, List.set_cons_zero, List.set_cons_succ]
      refine wpAnyH_take (i := 11) (v := ?_) rfl (by kernel_rfl) (by kernel_rfl) (by kernel_rfl) (fun _ _ _ h => h) (Or.inl ⟨by rfl, ?_⟩) (by assumption) ?_
      rotate_left
      · intro w hSw
        go_simp
        with_reducible rfl
      try simp only [List.getElem_toArray, List.getElem_cons_succ, List.getElem_cons_zero, Act.put, List.setIfInBounds_toArray, List.set_cons_zero, List.set_cons_succ]
      have c3 : w2.cell? ⟨w1.heap.size + 1, i.toNat, none⟩ = some (.int .i16 (rd ys i)) := HP2.out.cell h0 (by rw [HY.out.1]; omega)
      have f3 := HP2.out.frozen i.toNat
      refine wpAnyH_ready (rs := [12]) (by kernel_rfl) (by simp) ?_
      refine AllReadyH.cons rfl (fun K hK => ?_) AllReadyH.nil
      go_simp
      refine hK.out _ _ ⟨(HA2.out.other (c := w1.heap.size + 1) (by have := HGW.out; have := HG.out; omega) _ _).cell h0 (by rw [HX.out]; omega), (HQ2.out.other (c := w1.heap.size + 1) (by omega) _ _).cell h0 (by rw [HL.out]; omega)⟩ (fun hHeld => ?_)
      clear hK K c3 f3
      try simp only [List.getElem_toArray, List.getElem_cons_succ, List.getElem_cons_zero, Act.put, List.setIfInBounds_toArray, List.set_cons_zero, List.set_cons_succ]
      refine wpAnyH_done (by kernel_rfl) ?_ _
      clear hHeld
      go_wp2_with fail
      go_roundg k1
      case measure => omega
      case rel =>
        refine ⟨i + 1, ys.set i.toNat (rd (D_from xs l st) i), _, rfl, rfl, ⟨by have := HI.out; omega⟩, ⟨by simpa using HY.out.1, arr_take_set h0 (by rw [HY.out.1]; omega) (by rw [D_fromLen]; omega) HY.out.2⟩,
          ⟨HA2.out.other (by have := HGW.out; have := HG.out; omega) _ _⟩, ⟨HQ2.out.other (by omega) _ _⟩, ⟨?_⟩, ⟨HZ2.out.other (by have := HG.out; omega) _ _⟩, ⟨below_set HB2.out (by have := HG.out; omega)⟩⟩
        rw [HF.out, rd_tab h0 hi]
        exact HP2.out.set i _
set_option maxHeartbeats 8000000 in
set_option maxRecDepth 100000 in
theorem impl_printFrom.arr (xs : List Int) (hl : xs.length = 64) (A1 : Option Addr) (c1 : Nat) (l : List S102) (A2 : Option Addr) (c2 : Nat) (st : List S55) (w : World) (hr1 : Kd.C k102 w A1 l.length l) (hc1 : l.length ≤ c1) (hr2 : Kd.C k55 w A2 st.length st) (hc2 : st.length ≤ c2) (hd : D_dense xs) (hcv : D_curve l = true) (hth : ∀ x ∈ st, 0 ≤ x.f1 ∧ x.f1 ≤ 36) :
    Calls Tryz.prog 36 #[.agg (nums .i16 xs).toArray, .slice A1 l.length c1, .slice A2 st.length c2] w fun e w' => e = .returned (.agg (nums .i16 (D_from xs l st)).toArray) ∧ Below w.heap.size w w' := by
  have HX := Aside0.mk hl
  have HR1 := Aside0.mk hr1
  have HC1 := Aside0.mk hc1
  have HR2 := Aside0.mk hr2
  have HC2 := Aside0.mk hc2
  have HD := Aside0.mk hd
  have HCV := Aside0.mk hcv
  have HT := Aside0.mk hth
  have HA1 := Aside0.mk (xalloc3_0 w (.cells (nums .i16 xs).toArray 26) (.cells (nums .i16 (zer 64)).toArray 33) (.cells (nums .i16 (zer 64)).toArray 33))
  have HZ1 := Aside0.mk (xalloc3_1 w (.cells (nums .i16 xs).toArray 26) (.cells (nums .i16 (zer 64)).toArray 33) (.cells (nums .i16 (zer 64)).toArray 33))
  have HP1 := Aside0.mk (show ArrAt (((w.alloc (.cells (nums .i16 xs).toArray 26)).alloc (.cells (nums .i16 (zer 64)).toArray 33)).alloc (.cells (nums .i16 (zer 64)).toArray 33)) (w.heap.size + 2) 33 .i16 (zer 64) from xalloc3_2 w _ _ _)
  have HA2 := Aside0.mk (show ArrAt _ w.heap.size 26 .i16 xs from ArrAt.rowOther (c := w.heap.size + 2) HA1.out (by omega) (nums .i16 (zer 64)).toArray)
  have HZ2 := Aside0.mk (show ArrAt _ (w.heap.size + 1) 33 .i16 (zer 64) from ArrAt.rowOther (c := w.heap.size + 2) HZ1.out (by omega) (nums .i16 (zer 64)).toArray)
  have HP2 := Aside0.mk (HP1.out.row (ys := zer 64))
  have HB2 := Aside0.mk (below_row (xalloc3_below w (.cells (nums .i16 xs).toArray 26) (.cells (nums .i16 (zer 64)).toArray 33) (.cells (nums .i16 (zer 64)).toArray 33)) (by omega : w.heap.size ≤ w.heap.size + 2) (nums .i16 (zer 64)).toArray)
  clear hl hr1 hc1 hr2 hc2 hd hcv hth HA1 HZ1
  go_enter Tryz.func36, Tryz.ntmps36
  go_wp2_with (first | (refine arr_store rfl 33 _ _ rfl (w.heap.size + 2) .i16 (zer 64) rfl rfl 33 (zer 64) HP1.out 64 (by kernel_rfl) (zer_len 64) (zer_len 64) ?_))
  refine (impl_lightOn.arr A2 c2 st _ (Kd.C_below HR2.out HB2.out) HC2.out HT.out).mono ?_
  rintro e w1 ⟨rfl, hb⟩
  obtain ⟨L, hL⟩ : ∃ L, L = D_light st := ⟨_, rfl⟩
  have HL := Aside0.mk (show L.length = 64 by rw [hL]; exact D_lightLen st)
  have HLR := Aside0.mk (fun (i : Int) (h0 : 0 ≤ i) (h1 : i < 64) => show -1 ≤ rd L i ∧ rd L i ≤ 36 by rw [hL]; exact D_light_range st h0 h1)
  have HF := Aside0.mk (show D_from xs l st = tab 64 (fun k => D_cell l (rd xs k) (rd L k)) by rw [hL]; rfl)
  rw [← hL]
  have HA3 := Aside0.mk (HA2.out.below hb)
  have HZ3 := Aside0.mk (HZ2.out.below hb)
  have HP3 := Aside0.mk (HP2.out.below hb)
  have HB3 := Aside0.mk (below_step HB2.out hb)
  clear hb HA2 HZ2 HP2 HB2 HP1 hL
  go_wp2_with fail
  go_loopg [13] 64 (fun kq v13 w' => ∃ (i : Int) (ys : List Int) (W : World), W = w' ∧ v13 = .int .i64 i ∧ Aside0 (0 ≤ i ∧ i + kq = 64) ∧ Aside0 (ys.length = 64 ∧ ys.take i.toNat = (D_from xs l st).take i.toNat) ∧
      Aside0 (ArrAt W w.heap.size 26 .i16 xs) ∧ Aside0 (ArrAt W (w.heap.size + 2) 33 .i16 ys) ∧ Aside0 (ArrAt W (w.heap.size + 1) 33 .i16 (zer 64)) ∧ Aside0 (Below w.heap.size w W))
  case atStart => exact ⟨0, zer 64, _, rfl, rfl, ⟨by omega⟩, ⟨zer_len 64, by simp⟩, HA3, HP3, HZ3, HB3⟩
  case round =>
    clear HA3 HP3 HZ3 HB3
    obtain ⟨i, ys, W, rfl, rfl, HI, HY, HA, HP, HZ, HB⟩ := hrel
    cases gk with
    | zero =>
      have hdec : decide (i < 64) = false := decide_eq_false (by have := HI.out; omega)
      have HL2 := Aside0.mk HY.out.1
      have hys : ys = D_from xs l st := by
        have := HY.out.2
        rw [List.take_of_length_le (by have := HI.out; have := HY.out.1; omega), List.take_of_length_le (by have := HI.out; have := D_fromLen xs l st; omega)] at this
        exact this
      have HYS := Aside0.mk hys
      clear hys
      go_wp2_with (first | (refine arr_load rfl 33 _ rfl (w.heap.size + 1 + 1) rfl 33 .i16 ys HP.out _ Tryz.underlying33 rfl 64 (by kernel_rfl) HL2.out ?_) | (refine arr_store rfl 33 _ _ rfl (w.heap.size + 1) .i16 ys rfl rfl 33 (zer 64) HZ.out 64 (by kernel_rfl) (zer_len 64) HL2.out ?_))
      refine bodyPost_ret (results_cell_row rfl _ _ (w.heap.size + 1) 33 (nums .i16 ys).toArray (0, 0) _ rfl HZ.out.row Tryz.underlying33 rfl (by rw [show (Array.size (nums .i16 ys).toArray) = 64 by simp [nums, HL2.out]]; kernel_rfl)) rfl ?_
      exact ⟨by rw [← HYS.out], below_row HB.out (by omega) _⟩
    | succ k1 =>
      have h0 := HI.out.1
      have hi : i < 64 := by have := HI.out.2; omega
      have hx := arr_index (k := .i64) (xs := L) Tryz.underlying40 szI64 agI64 h0 (by rw [HL.out]; omega) HL.out
      have HX1 := Aside0.mk (L_printed HCV.out (arr_rd (P := fun x => 0 ≤ x ∧ x ≤ 400) HD.out h0 (by rw [HX.out]; omega)) (HLR.out i h0 hi) (Nat.le_refl 13))
      have HE9 := Aside0.mk (show wrap64 (i + 1) = i + 1 by unfold wrap64; omega)
      by_cases hneg : rd L i < 0
      · have hdd : decide (rd L i < 0) = true := decide_eq_true hneg
        have HX2 := Aside0.mk (HX1.out.2.2.1 hneg)
        have HW16 := Aside0.mk (show IntKind.i16.wrap (D_cell l (rd xs i) (rd L i)) = D_cell l (rd xs i) (rd L i) from L_w16 (by have := HX1.out.2.2.2; omega))
        clear hneg
        go_wp2_with fail
        refine (impl_Curve_at.calls 13 _ _ l (-200) _ _ (Kd.C_below HR1.out HB.out) HC1.out HX2.out).mono ?_
        rintro e w2 ⟨rfl, hb⟩
        have HB2 := Aside0.mk (below_step HB.out hb)
        have HA2 := Aside0.mk (HA.out.below hb)
        have HP2 := Aside0.mk (HP.out.below hb)
        have HZ2 := Aside0.mk (HZ.out.below hb)
        clear hb hx HB HA HP HZ
        have c3 : w2.cell? ⟨w.heap.size + 2, i.toNat, none⟩ = some (.int .i16 (rd ys i)) := HP2.out.cell h0 (by rw [HY.out.1]; omega)
        have f3 := HP2.out.frozen i.toNat
        have hw16 := HW16.out
        go_wp2_with fail
        clear hw16
        go_roundg k1
        case measure => omega
        case rel =>
          refine ⟨i + 1, ys.set i.toNat (rd (D_from xs l st) i), _, rfl, rfl, ⟨by have := HI.out; omega⟩, ⟨by simpa using HY.out.1, arr_take_set h0 (by rw [HY.out.1]; omega) (by rw [D_fromLen]; omega) HY.out.2⟩,
            ⟨HA2.out.other (by omega) _ _⟩, ⟨?_⟩, ⟨HZ2.out.other (by omega) _ _⟩, ⟨below_set HB2.out (by omega)⟩⟩
          rw [HF.out, rd_tab h0 hi]
          exact HP2.out.set i _
      · have hdd : decide (rd L i < 0) = false := decide_eq_false hneg
        have HX2 := Aside0.mk (HX1.out.2.1 (by omega))
        have c1 : W.cell? ⟨w.heap.size, i.toNat, none⟩ = some (.int .i16 (rd xs i)) := HA.out.cell h0 (by rw [HX.out]; omega)
        clear hneg
        go_wp2_with fail
        refine (impl_Curve_shade.calls 13 _ _ l _ _ _ _ (Kd.C_below HR1.out HB.out) HC1.out HX2.out).mono ?_
        rintro e w2 ⟨rfl, hb⟩
        have HB2 := Aside0.mk (below_step HB.out hb)
        have HA2 := Aside0.mk (HA.out.below hb)
        have HP2 := Aside0.mk (HP.out.below hb)
        have HZ2 := Aside0.mk (HZ.out.below hb)
        clear hb hx HB HA HP HZ c1
        have c3 : w2.cell? ⟨w.heap.size + 2, i.toNat, none⟩ = some (.int .i16 (rd ys i)) := HP2.out.cell h0 (by rw [HY.out.1]; omega)
        have f3 := HP2.out.frozen i.toNat
        go_wp2_with fail
        go_roundg k1
        case measure => omega
        case rel =>
          refine ⟨i + 1, ys.set i.toNat (rd (D_from xs l st) i), _, rfl, rfl, ⟨by have := HI.out; omega⟩, ⟨by simpa using HY.out.1, arr_take_set h0 (by rw [HY.out.1]; omega) (by rw [D_fromLen]; omega) HY.out.2⟩,
            ⟨HA2.out.other (by omega) _ _⟩, ⟨?_⟩, ⟨HZ2.out.other (by omega) _ _⟩, ⟨below_set HB2.out (by omega)⟩⟩
          rw [HF.out, rd_tab h0 hi]
          exact HP2.out.set i _
set_option maxHeartbeats 8000000 in
set_option maxRecDepth 100000 in
theorem spec_PrintFrom.arr (xs : List Int) (hl : xs.length = 64) (h16 : ∀ x ∈ xs, -32768 ≤ x ∧ x ≤ 32767) (A1 : Option Addr) (c1 : Nat) (l : List S102) (A2 : Option Addr) (c2 : Nat) (st : List S55) (w : World) (hr1 : Kd.C k102 w A1 l.length l) (hc1 : l.length ≤ c1) (hr2 : Kd.C k55 w A2 st.length st) (hc2 : st.length ≤ c2) (h1 : D_i16s l) (n1 : l.length ≤ 140737488351232) (h8 : D_i8s st) (n2 : st.length ≤ 140737488351232) :
    Calls Tryz.prog 9 #[.agg (nums .i16 xs).toArray, .slice A1 l.length c1, .slice A2 st.length c2] w fun e w' => e = .returned (.tuple #[.agg (nums .i16 (D_printFrom xs l st).1).toArray, .int .i64 (D_printFrom xs l st).2]) ∧ Below w.heap.size w w' := by
  have HX := Aside0.mk hl
  have H16 := Aside0.mk h16
  have HC1 := Aside0.mk hc1
  have HC2 := Aside0.mk hc2
  have H1 := Aside0.mk h1
  have N1 := Aside0.mk n1
  have H8 := Aside0.mk h8
  have N2 := Aside0.mk n2
  have hba := arr_below2 w (.cells (nums .i16 xs).toArray 26) (.cells (nums .i16 (zer 64)).toArray 33)
  have HA := Aside0.mk (arr_new2a w 26 .i16 xs (.cells (nums .i16 (zer 64)).toArray 33))
  have HZ := Aside0.mk (arr_new2b w (.cells (nums .i16 xs).toArray 26) 33 .i16 (zer 64))
  have HB := Aside0.mk hba
  have HR1 := Aside0.mk (Kd.C_below hr1 hba)
  have HR2 := Aside0.mk (Kd.C_below hr2 hba)
  clear hl h16 hr1 hc1 hr2 hc2 h1 n1 h8 n2 hba
  go_enter Tryz.func9, Tryz.ntmps9
  have HZL := Aside0.mk (zer_len 64)
  go_wp2_with fail
  refine (spec_l03Negative.arr w.heap.size xs HX.out H16.out _ HA.out).mono ?_
  rintro e w1 ⟨rfl, hb⟩
  have HA_1 := Aside0.mk (ArrAt.below HA.out hb)
  have HZ_1 := Aside0.mk (ArrAt.below HZ.out hb)
  have HB_1 := Aside0.mk (below_step HB.out hb)
  have HR1_1 := Aside0.mk (Kd.C_below HR1.out hb)
  have HR2_1 := Aside0.mk (Kd.C_below HR2.out hb)
  clear hb HA HZ HB HR1 HR2
  by_cases hq : D_dense xs
  · have hdd : decide (D_dense xs) = true := decide_eq_true hq
    have HQ0 := Aside0.mk hq
    clear hq
    go_wp2_with fail
    refine (spec_l02Ok.calls (l.length + 1) _ _ l _ _ HR1_1.out HC1.out (L_specCurve l H1.out N1.out (Nat.lt_succ_self _))).mono ?_
    rintro e w2 ⟨rfl, hb⟩
    have HA_2 := Aside0.mk (ArrAt.below HA_1.out hb)
    have HZ_2 := Aside0.mk (ArrAt.below HZ_1.out hb)
    have HB_2 := Aside0.mk (below_step HB_1.out hb)
    have HR1_2 := Aside0.mk (Kd.C_below HR1_1.out hb)
    have HR2_2 := Aside0.mk (Kd.C_below HR2_1.out hb)
    clear hb HA_1 HZ_1 HB_1 HR1_1 HR2_1
    by_cases hq : D_curve l = true
    · have HQ1 := Aside0.mk hq
      go_wp2_with fail
      refine (spec_l03Ok.calls (st.length + 1) _ _ st _ _ HR2_2.out HC2.out (L_stepsOk st H8.out N2.out (Nat.lt_succ_self _))).mono ?_
      rintro e w3 ⟨rfl, hb⟩
      have HA_3 := Aside0.mk (ArrAt.below HA_2.out hb.below)
      have HZ_3 := Aside0.mk (ArrAt.below HZ_2.out hb.below)
      have HB_3 := Aside0.mk (below_step HB_2.out hb.below)
      have HR1_3 := Aside0.mk (Kd.C_below HR1_2.out hb.below)
      have HR2_3 := Aside0.mk (Kd.C_below HR2_2.out hb.below)
      clear hb HA_2 HZ_2 HB_2 HR1_2 HR2_2
      by_cases hq : D_steps st
      · have hdd : decide (D_steps st) = true := decide_eq_true hq
        have HQ2 := Aside0.mk hq
        clear hq
        have HE := Aside0.mk (show D_printFrom xs l st = (D_from xs l st, 0) from if_pos ⟨HQ0.out, HQ1.out, HQ2.out⟩)
        go_wp2_with fail
        refine (spec_l03From.arr w.heap.size xs HX.out _ _ l _ _ st _ HR1_3.out HC1.out HR2_3.out HC2.out HA_3.out HQ0.out HQ1.out HQ2.out.1).mono ?_
        rintro e w4 ⟨rfl, hb⟩
        have HA_4 := Aside0.mk (ArrAt.below HA_3.out hb)
        have HZ_4 := Aside0.mk (ArrAt.below HZ_3.out hb)
        have HB_4 := Aside0.mk (below_step HB_3.out hb)
        have HR1_4 := Aside0.mk (Kd.C_below HR1_3.out hb)
        have HR2_4 := Aside0.mk (Kd.C_below HR2_3.out hb)
        clear hb HA_3 HZ_3 HB_3 HR1_3 HR2_3
        obtain ⟨Z, hZ⟩ : ∃ Z, Z = D_from xs l st := ⟨_, rfl⟩
        have HL := Aside0.mk (show Z.length = 64 by rw [hZ]; exact D_fromLen xs l st)
        rw [← hZ]
        have HZZ := Aside0.mk hZ
        clear hZ
        go_wp2_with (first | (refine arr_store rfl 33 _ _ rfl (w.heap.size + 1) .i16 Z rfl rfl 33 (zer 64) HZ_4.out 64 (by kernel_rfl) (zer_len 64) HL.out ?_))
        refine bodyPost_ret (results_ct rfl _ _ (w.heap.size + 1) 33 (nums .i16 Z).toArray (0, 0) _ rfl HZ_4.out.row Tryz.underlying33 rfl (by rw [show (Array.size (nums .i16 Z).toArray) = 64 by simp [nums, HL.out]]; kernel_rfl)) rfl ?_
        exact ⟨by rw [HE.out, HZZ.out]; rfl, below_row HB_4.out (by omega) _⟩
      · have hdd : decide (D_steps st) = false := decide_eq_false hq
        have HE := Aside0.mk (show D_printFrom xs l st = (zer 64, 1) from if_neg (fun h => hq h.2.2))
        clear hq
        go_wp2_with (first | (refine arr_store rfl 33 _ _ rfl (w.heap.size + 1) .i16 (zer 64) rfl rfl 33 (zer 64) HZ_3.out 64 (by kernel_rfl) (zer_len 64) (zer_len 64) ?_))
        refine bodyPost_ret (results_ct rfl _ _ (w.heap.size + 1) 33 (nums .i16 (zer 64)).toArray (0, 0) _ rfl HZ_3.out.row Tryz.underlying33 rfl (by rw [show (Array.size (nums .i16 (zer 64)).toArray) = 64 by simp [nums, zer]]; kernel_rfl)) rfl ?_
        exact ⟨by rw [HE.out]; rfl, below_row HB_3.out (by omega) _⟩
    · have hdd : D_curve l = false := Bool.eq_false_iff.mpr hq
      have HE := Aside0.mk (show D_printFrom xs l st = (zer 64, 1) from if_neg (fun h => hq h.2.1))
      clear hq
      go_wp2_with (first | (refine arr_store rfl 33 _ _ rfl (w.heap.size + 1) .i16 (zer 64) rfl rfl 33 (zer 64) HZ_2.out 64 (by kernel_rfl) (zer_len 64) (zer_len 64) ?_))
      refine bodyPost_ret (results_ct rfl _ _ (w.heap.size + 1) 33 (nums .i16 (zer 64)).toArray (0, 0) _ rfl HZ_2.out.row Tryz.underlying33 rfl (by rw [show (Array.size (nums .i16 (zer 64)).toArray) = 64 by simp [nums, zer]]; kernel_rfl)) rfl ?_
      exact ⟨by rw [HE.out]; rfl, below_row HB_2.out (by omega) _⟩
  · have hdd : decide (D_dense xs) = false := decide_eq_false hq
    have HE := Aside0.mk (show D_printFrom xs l st = (zer 64, 1) from if_neg (fun h => hq h.1))
    clear hq
    go_wp2_with (first | (refine arr_store rfl 33 _ _ rfl (w.heap.size + 1) .i16 (zer 64) rfl rfl 33 (zer 64) HZ_1.out 64 (by kernel_rfl) (zer_len 64) (zer_len 64) ?_))
    refine bodyPost_ret (results_ct rfl _ _ (w.heap.size + 1) 33 (nums .i16 (zer 64)).toArray (0, 0) _ rfl HZ_1.out.row Tryz.underlying33 rfl (by rw [show (Array.size (nums .i16 (zer 64)).toArray) = 64 by simp [nums, zer]]; kernel_rfl)) rfl ?_
    exact ⟨by rw [HE.out]; rfl, below_row HB_1.out (by omega) _⟩
set_option maxHeartbeats 8000000 in
set_option maxRecDepth 100000 in
theorem impl_PrintFrom.arr (xs : List Int) (hl : xs.length = 64) (h16 : ∀ x ∈ xs, -32768 ≤ x ∧ x ≤ 32767) (A1 : Option Addr) (c1 : Nat) (l : List S102) (A2 : Option Addr) (c2 : Nat) (st : List S55) (w : World) (hr1 : Kd.C k102 w A1 l.length l) (hc1 : l.length ≤ c1) (hr2 : Kd.C k55 w A2 st.length st) (hc2 : st.length ≤ c2) (h1 : D_i16s l) (n1 : l.length ≤ 140737488351232) (h8 : D_i8s st) (n2 : st.length ≤ 140737488351232) :
    Calls Tryz.prog 8 #[.agg (nums .i16 xs).toArray, .slice A1 l.length c1, .slice A2 st.length c2] w fun e w' => e = .returned (.tuple #[.agg (nums .i16 (D_printFrom xs l st).1).toArray, .int .i64 (D_printFrom xs l st).2]) ∧ Below w.heap.size w w' := by
  have HX := Aside0.mk hl
  have H16 := Aside0.mk h16
  have HC1 := Aside0.mk hc1
  have HC2 := Aside0.mk hc2
  have H1 := Aside0.mk h1
  have N1 := Aside0.mk n1
  have H8 := Aside0.mk h8
  have N2 := Aside0.mk n2
  have hba := arr_below2 w (.cells (nums .i16 xs).toArray 26) (.cells (nums .i16 (zer 64)).toArray 33)
  have HA := Aside0.mk (arr_new2a w 26 .i16 xs (.cells (nums .i16 (zer 64)).toArray 33))
  have HZ := Aside0.mk (arr_new2b w (.cells (nums .i16 xs).toArray 26) 33 .i16 (zer 64))
  have HB := Aside0.mk hba
  have HR1 := Aside0.mk (Kd.C_below hr1 hba)
  have HR2 := Aside0.mk (Kd.C_below hr2 hba)
  clear hl h16 hr1 hc1 hr2 hc2 h1 n1 h8 n2 hba
  go_enter Tryz.func8, Tryz.ntmps8
  have HZL := Aside0.mk (zer_len 64)
  go_wp2_with (first | (refine arr_load rfl 26 _ rfl w.heap.size rfl 26 .i16 xs HA.out _ Tryz.underlying26 rfl 64 (by kernel_rfl) HX.out ?_) | (refine arr_load rfl 33 _ rfl (w.heap.size + 1) rfl 33 .i16 (zer 64) HZ.out _ Tryz.underlying33 rfl 64 (by kernel_rfl) HZL.out ?_))
  refine (impl_ValidNegative.arr xs HX.out H16.out _).mono ?_
  rintro e w1 ⟨rfl, hb⟩
  have HA_1 := Aside0.mk (ArrAt.below HA.out hb)
  have HZ_1 := Aside0.mk (ArrAt.below HZ.out hb)
  have HB_1 := Aside0.mk (below_step HB.out hb)
  have HR1_1 := Aside0.mk (Kd.C_below HR1.out hb)
  have HR2_1 := Aside0.mk (Kd.C_below HR2.out hb)
  clear hb HA HZ HB HR1 HR2
  by_cases hq : D_dense xs
  · have hdd : decide (D_dense xs) = true := decide_eq_true hq
    have HQ0 := Aside0.mk hq
    clear hq
    go_wp2_with fail
    refine (impl_ValidCurve.calls (l.length + 1) _ _ l _ _ HR1_1.out HC1.out (L_implCurve l H1.out N1.out (Nat.lt_succ_self _))).mono ?_
    rintro e w2 ⟨rfl, hb⟩
    have HA_2 := Aside0.mk (ArrAt.below HA_1.out hb)
    have HZ_2 := Aside0.mk (ArrAt.below HZ_1.out hb)
    have HB_2 := Aside0.mk (below_step HB_1.out hb)
    have HR1_2 := Aside0.mk (Kd.C_below HR1_1.out hb)
    have HR2_2 := Aside0.mk (Kd.C_below HR2_1.out hb)
    clear hb HA_1 HZ_1 HB_1 HR1_1 HR2_1
    by_cases hq : D_curve l = true
    · have HQ1 := Aside0.mk hq
      go_wp2_with fail
      refine (impl_ValidSteps.calls _ _ st _ _ HR2_2.out HC2.out (L_implSteps st H8.out)).mono ?_
      rintro e w3 ⟨rfl, hb⟩
      have HA_3 := Aside0.mk (ArrAt.below HA_2.out hb)
      have HZ_3 := Aside0.mk (ArrAt.below HZ_2.out hb)
      have HB_3 := Aside0.mk (below_step HB_2.out hb)
      have HR1_3 := Aside0.mk (Kd.C_below HR1_2.out hb)
      have HR2_3 := Aside0.mk (Kd.C_below HR2_2.out hb)
      clear hb HA_2 HZ_2 HB_2 HR1_2 HR2_2
      by_cases hq : D_steps st
      · have hdd : decide (D_steps st) = true := decide_eq_true hq
        have HQ2 := Aside0.mk hq
        clear hq
        have HE := Aside0.mk (show D_printFrom xs l st = (D_from xs l st, 0) from if_pos ⟨HQ0.out, HQ1.out, HQ2.out⟩)
        go_wp2_with (first | (refine arr_load rfl 26 _ rfl w.heap.size rfl 26 .i16 xs HA_3.out _ Tryz.underlying26 rfl 64 (by kernel_rfl) HX.out ?_) | (refine arr_load rfl 33 _ rfl (w.heap.size + 1) rfl 33 .i16 (zer 64) HZ_3.out _ Tryz.underlying33 rfl 64 (by kernel_rfl) HZL.out ?_))
        refine (impl_printFrom.arr xs HX.out _ _ l _ _ st _ HR1_3.out HC1.out HR2_3.out HC2.out HQ0.out HQ1.out HQ2.out.1).mono ?_
        rintro e w4 ⟨rfl, hb⟩
        have HA_4 := Aside0.mk (ArrAt.below HA_3.out hb)
        have HZ_4 := Aside0.mk (ArrAt.below HZ_3.out hb)
        have HB_4 := Aside0.mk (below_step HB_3.out hb)
        have HR1_4 := Aside0.mk (Kd.C_below HR1_3.out hb)
        have HR2_4 := Aside0.mk (Kd.C_below HR2_3.out hb)
        clear hb HA_3 HZ_3 HB_3 HR1_3 HR2_3
        obtain ⟨Z, hZ⟩ : ∃ Z, Z = D_from xs l st := ⟨_, rfl⟩
        have HL := Aside0.mk (show Z.length = 64 by rw [hZ]; exact D_fromLen xs l st)
        rw [← hZ]
        have HZZ := Aside0.mk hZ
        clear hZ
        go_wp2_with (first | (refine arr_store rfl 33 _ _ rfl (w.heap.size + 1) .i16 Z rfl rfl 33 (zer 64) HZ_4.out 64 (by kernel_rfl) (zer_len 64) HL.out ?_))
        refine bodyPost_ret (results_ct rfl _ _ (w.heap.size + 1) 33 (nums .i16 Z).toArray (0, 0) _ rfl HZ_4.out.row Tryz.underlying33 rfl (by rw [show (Array.size (nums .i16 Z).toArray) = 64 by simp [nums, HL.out]]; kernel_rfl)) rfl ?_
        exact ⟨by rw [HE.out, HZZ.out]; rfl, below_row HB_4.out (by omega) _⟩
      · have hdd : decide (D_steps st) = false := decide_eq_false hq
        have HE := Aside0.mk (show D_printFrom xs l st = (zer 64, 1) from if_neg (fun h => hq h.2.2))
        clear hq
        go_wp2_with (first | (refine arr_store rfl 33 _ _ rfl (w.heap.size + 1) .i16 (zer 64) rfl rfl 33 (zer 64) HZ_3.out 64 (by kernel_rfl) (zer_len 64) (zer_len 64) ?_))
        refine bodyPost_ret (results_ct rfl _ _ (w.heap.size + 1) 33 (nums .i16 (zer 64)).toArray (0, 0) _ rfl HZ_3.out.row Tryz.underlying33 rfl (by rw [show (Array.size (nums .i16 (zer 64)).toArray) = 64 by simp [nums, zer]]; kernel_rfl)) rfl ?_
        exact ⟨by rw [HE.out]; rfl, below_row HB_3.out (by omega) _⟩
    · have hdd : D_curve l = false := Bool.eq_false_iff.mpr hq
      have HE := Aside0.mk (show D_printFrom xs l st = (zer 64, 1) from if_neg (fun h => hq h.2.1))
      clear hq
      go_wp2_with (first | (refine arr_store rfl 33 _ _ rfl (w.heap.size + 1) .i16 (zer 64) rfl rfl 33 (zer 64) HZ_2.out 64 (by kernel_rfl) (zer_len 64) (zer_len 64) ?_))
      refine bodyPost_ret (results_ct rfl _ _ (w.heap.size + 1) 33 (nums .i16 (zer 64)).toArray (0, 0) _ rfl HZ_2.out.row Tryz.underlying33 rfl (by rw [show (Array.size (nums .i16 (zer 64)).toArray) = 64 by simp [nums, zer]]; kernel_rfl)) rfl ?_
      exact ⟨by rw [HE.out]; rfl, below_row HB_2.out (by omega) _⟩
  · have hdd : decide (D_dense xs) = false := decide_eq_false hq
    have HE := Aside0.mk (show D_printFrom xs l st = (zer 64, 1) from if_neg (fun h => hq h.1))
    clear hq
    go_wp2_with (first | (refine arr_store rfl 33 _ _ rfl (w.heap.size + 1) .i16 (zer 64) rfl rfl 33 (zer 64) HZ_1.out 64 (by kernel_rfl) (zer_len 64) (zer_len 64) ?_))
    refine bodyPost_ret (results_ct rfl _ _ (w.heap.size + 1) 33 (nums .i16 (zer 64)).toArray (0, 0) _ rfl HZ_1.out.row Tryz.underlying33 rfl (by rw [show (Array.size (nums .i16 (zer 64)).toArray) = 64 by simp [nums, zer]]; kernel_rfl)) rfl ?_
    exact ⟨by rw [HE.out]; rfl, below_row HB_1.out (by omega) _⟩
end Go.Proofs.YtjonocgmofcieaaGreatDoor.Q
namespace Go.Proofs.YtjonocgmofcieaaGreatDoor.Q
open Go.RowKit Go.Proofs.YtjonocgmofcieaaGreatDoor.PL Go.Proofs.YtjonocgmofcieaaGreatDoorW.PrintWords Go.Proofs.YtjonocgmofcieaaGreatDoorW.PrintLast Go.Proofs.YtjonocgmofcieaaGreatDoorW.PrintMore
attribute [local go_sem] max2_int min2_int max_two min_two max_three min_three max_four min_four
set_option linter.unusedVariables false
set_option linter.unusedSimpArgs false
def D_redo (xs : List Int) (P : List S102) (S : List S55) (c : Int) : List Int × Int := if D_dense xs then (if c = 0 then (D_from xs P S, 0) else (zer 64, c)) else (zer 64, 1)
theorem D_redo_len (xs : List Int) (P : List S102) (S : List S55) (c : Int) : (D_redo xs P S c).1.length = 64 := by
  unfold D_redo
  split
  · split <;> simp [D_fromLen, zer]
  · simp [zer]
set_option maxHeartbeats 8000000 in
set_option maxRecDepth 100000 in
theorem impl_RedoLog.arr (xs : List Int) (hl : xs.length = 64) (h16 : ∀ x ∈ xs, -32768 ≤ x ∧ x ≤ 32767) (s : ByteArray) (P : List S102) (S : List S55) (c : Int) (w : World) (hR : impl_ReadLog.f s = some (P, S, c)) (hok : c = 0 → D_curve P = true ∧ D_steps S) (hT : Tab10 w) :
    Calls Tryz.prog 10 #[.agg (nums .i16 xs).toArray, .string s] w fun e w' => e = .returned (.tuple #[.agg (nums .i16 (D_redo xs P S c).1).toArray, .int .i64 (D_redo xs P S c).2]) ∧ Below w.heap.size w w' := by
  have HX := Aside0.mk hl
  have H16 := Aside0.mk h16
  have HRL := Aside0.mk hR
  have HOK := Aside0.mk hok
  have HTB := Aside0.mk hT
  have hba := arr_below2 w (.cells (nums .i16 xs).toArray 26) (.cells (nums .i16 (zer 64)).toArray 33)
  have HA := Aside0.mk (arr_new2a w 26 .i16 xs (.cells (nums .i16 (zer 64)).toArray 33))
  have HZ := Aside0.mk (arr_new2b w (.cells (nums .i16 xs).toArray 26) 33 .i16 (zer 64))
  have HB := Aside0.mk hba
  clear hl h16 hR hok hT hba
  go_enter Tryz.func10, Tryz.ntmps10
  have HZL := Aside0.mk (zer_len 64)
  go_wp2_with (first | (refine arr_load rfl 26 _ rfl w.heap.size rfl 26 .i16 xs HA.out _ Tryz.underlying26 rfl 64 (by kernel_rfl) HX.out ?_) | (refine arr_load rfl 33 _ rfl (w.heap.size + 1) rfl 33 .i16 (zer 64) HZ.out _ Tryz.underlying33 rfl 64 (by kernel_rfl) HZL.out ?_))
  refine (impl_ValidNegative.arr xs HX.out H16.out _).mono ?_
  rintro e w1 ⟨rfl, hb⟩
  have HA_1 := Aside0.mk (ArrAt.below HA.out hb)
  have HZ_1 := Aside0.mk (ArrAt.below HZ.out hb)
  have HB_1 := Aside0.mk (below_step HB.out hb)
  clear hb HA HZ HB
  by_cases hq : D_dense xs
  · have hdd : decide (D_dense xs) = true := decide_eq_true hq
    have HQ := Aside0.mk hq
    clear hq
    go_wp2_with fail
    refine (impl_ReadLog.calls s P S c _ HRL.out (HTB.out.below HB_1.out)).mono ?_
    rintro e w2 ⟨v_P, v_S, rfl, ho1, ho2, hb⟩
    obtain ⟨A_P, c_P, e_P⟩ := Kd.R_slice ho1
    subst e_P
    have P_r := Aside0.mk (Kd.R_reads' ho1).2.2
    have P_c := Aside0.mk (Kd.R_reads' ho1).2.1
    clear ho1
    obtain ⟨A_S, c_S, e_S⟩ := Kd.R_slice ho2
    subst e_S
    have S_r := Aside0.mk (Kd.R_reads' ho2).2.2
    have S_c := Aside0.mk (Kd.R_reads' ho2).2.1
    clear ho2
    have HA_2 := Aside0.mk (ArrAt.below HA_1.out hb)
    have HZ_2 := Aside0.mk (ArrAt.below HZ_1.out hb)
    have HB_2 := Aside0.mk (below_step HB_1.out hb)
    clear hb HA_1 HZ_1 HB_1
    by_cases hc : c = 0
    · have HE := Aside0.mk (show D_redo xs P S c = (D_from xs P S, 0) from (if_pos HQ.out).trans (if_pos hc))
      have HKK := Aside0.mk (HOK.out hc)
      clear HOK HRL
      subst hc
      go_wp2_with (first | (refine arr_load rfl 26 _ rfl w.heap.size rfl 26 .i16 xs HA_2.out _ Tryz.underlying26 rfl 64 (by kernel_rfl) HX.out ?_) | (refine arr_load rfl 33 _ rfl (w.heap.size + 1) rfl 33 .i16 (zer 64) HZ_2.out _ Tryz.underlying33 rfl 64 (by kernel_rfl) HZL.out ?_))
      refine (impl_printFrom.arr xs HX.out _ _ P _ _ S _ P_r.out P_c.out S_r.out S_c.out HQ.out HKK.out.1 HKK.out.2.1).mono ?_
      rintro e w3 ⟨rfl, hb⟩
      have HA_3 := Aside0.mk (ArrAt.below HA_2.out hb)
      have HZ_3 := Aside0.mk (ArrAt.below HZ_2.out hb)
      have HB_3 := Aside0.mk (below_step HB_2.out hb)
      have P_3 := Aside0.mk (Kd.C_below P_r.out hb)
      have S_3 := Aside0.mk (Kd.C_below S_r.out hb)
      clear hb HA_2 HZ_2 HB_2 P_r S_r
      obtain ⟨Z, hZ⟩ : ∃ Z, Z = D_from xs P S := ⟨_, rfl⟩
      have HL := Aside0.mk (show Z.length = 64 by rw [hZ]; exact D_fromLen xs P S)
      rw [← hZ]
      have HZZ := Aside0.mk hZ
      clear hZ
      go_wp2_with (first | (refine arr_store rfl 33 _ _ rfl (w.heap.size + 1) .i16 Z rfl rfl 33 (zer 64) HZ_3.out 64 (by kernel_rfl) (zer_len 64) HL.out ?_))
      refine bodyPost_ret (results_ct rfl _ _ (w.heap.size + 1) 33 (nums .i16 Z).toArray (0, 0) _ rfl HZ_3.out.row Tryz.underlying33 rfl (by rw [show (Array.size (nums .i16 Z).toArray) = 64 by simp [nums, HL.out]]; kernel_rfl)) rfl ?_
      exact ⟨by rw [HE.out, HZZ.out]; rfl, below_row HB_3.out (by omega) _⟩
    · have hc1 : (c == 0) = false := beq_eq_false_iff_ne.mpr hc
      have hc2 : (c != 0) = true := bne_iff_ne.mpr hc
      have hc3 : decide (c = 0) = false := decide_eq_false hc
      have HE := Aside0.mk (show D_redo xs P S c = (zer 64, c) from (if_pos HQ.out).trans (if_neg hc))
      clear hc
      go_wp2_with (first | (refine arr_store rfl 33 _ _ rfl (w.heap.size + 1) .i16 (zer 64) rfl rfl 33 (zer 64) HZ_2.out 64 (by kernel_rfl) (zer_len 64) (zer_len 64) ?_))
      refine bodyPost_ret (results_ct rfl _ _ (w.heap.size + 1) 33 (nums .i16 (zer 64)).toArray (0, 0) _ rfl HZ_2.out.row Tryz.underlying33 rfl (by rw [show (Array.size (nums .i16 (zer 64)).toArray) = 64 by simp [nums, zer]]; kernel_rfl)) rfl ?_
      exact ⟨by rw [HE.out]; rfl, below_row HB_2.out (by omega) _⟩
  · have hdd : decide (D_dense xs) = false := decide_eq_false hq
    have HE := Aside0.mk (show D_redo xs P S c = (zer 64, 1) from if_neg hq)
    clear hq
    go_wp2_with (first | (refine arr_store rfl 33 _ _ rfl (w.heap.size + 1) .i16 (zer 64) rfl rfl 33 (zer 64) HZ_1.out 64 (by kernel_rfl) (zer_len 64) (zer_len 64) ?_))
    refine bodyPost_ret (results_ct rfl _ _ (w.heap.size + 1) 33 (nums .i16 (zer 64)).toArray (0, 0) _ rfl HZ_1.out.row Tryz.underlying33 rfl (by rw [show (Array.size (nums .i16 (zer 64)).toArray) = 64 by simp [nums, zer]]; kernel_rfl)) rfl ?_
    exact ⟨by rw [HE.out]; rfl, below_row HB_1.out (by omega) _⟩
end Go.Proofs.YtjonocgmofcieaaGreatDoor.Q
namespace Go.Proofs.YtjonocgmofcieaaGreatDoor.PL
open Go.RowKit Go.Proofs.YtjonocgmofcieaaGreatDoor.Q Go.Proofs.YtjonocgmofcieaaGreatDoorW.PrintWords Go.Proofs.YtjonocgmofcieaaGreatDoorW.PrintLast Go.Proofs.YtjonocgmofcieaaGreatDoorW.PrintMore
set_option linter.unusedVariables false
set_option linter.unusedSimpArgs false
def D_mirror (m : Int) : Nat → Int → Int → Int
  | 0, a, _ => a
  | d + 1, a, x => D_mirror m d (if (Go.bits .and .u64 (shr .u64 m x) 1) = 1 then Go.bits .or .u64 a (shl .u64 1 (x - x % 8 + 7 - x % 8)) else a) (x + 1)

theorem L_mirImpl (m f : Int) (o l : List S55) (n i : Int) (d : Nat) : ∀ (K k : Nat) (a x : Int), K = k + d + 1 → 0 ≤ x → x + d = 64 →
    impl_MirrorSteps.l1 K o a l n i x m f = if o.length < 8796093022208 then impl_MirrorSteps.l0 k (o ++ [(⟨D_mirror m d a x, f⟩ : S55)]) l n (wrap64 (i + 1)) else none := by
  induction d with
  | zero =>
    intro K k a x hK h0 hd
    obtain ⟨K, rfl⟩ : ∃ q, K = q + 1 := ⟨K - 1, by omega⟩
    obtain rfl : K = k := by omega
    simp only [impl_MirrorSteps.l1, D_mirror]; rw [if_neg (by omega)]
  | succ d ih =>
    intro K k a x hK h0 hd
    obtain ⟨K, rfl⟩ : ∃ q, K = q + 1 := ⟨K - 1, by omega⟩
    have e2 : Int.tmod x 8 = x % 8 := Int.tmod_eq_emod_of_nonneg h0
    simp only [impl_MirrorSteps.l1, impl_has.f, D_mirror]
    rw [e2, L_w (x := x - x % 8) (by omega), L_w (x := x - x % 8 + 8) (by omega), L_w (x := x - x % 8 + 8 - 1) (by omega), L_w (x := x - x % 8 + 8 - 1 - x % 8) (by omega), L_w (x := x + 1) (by omega),
      if_pos (show x < 64 by omega), if_pos h0, show x - x % 8 + 8 - 1 - x % 8 = x - x % 8 + 7 - x % 8 by omega]
    simp only [Option.bind_some, beq_iff_eq]
    split
    · rw [if_pos (by omega), ih K k _ (x + 1) (by omega) (by omega) (by omega)]
    · rw [ih K k _ (x + 1) (by omega) (by omega) (by omega)]

def D_mirStep (x : S55) : S55 := ⟨D_mirror x.f0 64 0 0, x.f1⟩

theorem L_thirdsInDown (s : Int) (hs : 1000 ≤ s) (d : Nat) : ∀ (k : Nat) (i : Int), i = d → i ≤ 36 → d < k → (i < 36 → s < tmv (i + 1)) → impl_ThirdsIn.l0 k s i = some (D_in s, 0) := by
  induction d with
  | zero =>
    intro k i hi h36 hk h
    obtain ⟨k, rfl⟩ : ∃ m, k = m + 1 := ⟨k - 1, by omega⟩
    obtain rfl : i = 0 := by omega
    have h0 : tmv 0 = 1000 := by decide
    simp only [impl_ThirdsIn.l0]
    rw [L_timeOf (by omega)]
    simp only [Option.bind_some]
    rw [if_neg (by omega), L_inUnique (s := s) (k := 0) (by omega) (fun _ => by omega) h]
  | succ d ih =>
    intro k i hi h36 hk h
    obtain ⟨k, rfl⟩ : ∃ m, k = m + 1 := ⟨k - 1, by omega⟩
    simp only [impl_ThirdsIn.l0]
    rw [L_timeOf (by omega)]
    simp only [Option.bind_some]
    by_cases hc : tmv i > s
    · rw [if_pos hc, L_w (x := i - 1) (by omega)]
      exact ih k (i - 1) (by omega) (by omega) (by omega) (fun _ => by rw [show i - 1 + 1 = i by omega]; omega)
    · rw [if_neg hc, L_inUnique (s := s) (k := i) (by omega) (fun _ => by omega) h]

theorem L_thirdsIn {s : Int} (hs : 1000 ≤ s ∧ s ≤ 100000000) {k : Nat} (hk : 37 ≤ k) : impl_ThirdsIn.f k s = some (D_in s, 0) := by
  unfold impl_ThirdsIn.f impl_areMilliseconds.f
  rw [L_within]
  simp only [Option.bind_some, decide_eq_true_eq]
  rw [if_pos (by omega), L_timeOf (by omega)]
  simp only [Option.bind_some]
  rw [if_neg (by have : tmv 0 = 1000 := by decide
                 omega)]
  exact L_thirdsInDown s hs.1 36 k 36 rfl (by omega) (by omega) (fun h => by omega)


-- L_mirImpl D_mirStep D_mirror L_thirdsIn L_rdS L_isPlace L_implCurve L_at
end Go.Proofs.YtjonocgmofcieaaGreatDoor.PL
namespace Go.Proofs.YtjonocgmofcieaaGreatDoor.Q
open Go.RowKit Go.Proofs.YtjonocgmofcieaaGreatDoor.PL Go.Proofs.YtjonocgmofcieaaGreatDoorW.PrintWords Go.Proofs.YtjonocgmofcieaaGreatDoorW.PrintLast Go.Proofs.YtjonocgmofcieaaGreatDoorW.PrintMore
set_option linter.unusedVariables false
set_option linter.unusedSimpArgs false
theorem L_cellMono {l : List S102} (h : D_curve l = true) {den a b : Int} (hd : 0 ≤ den ∧ den ≤ 400) (ha : -1 ≤ a) (hab : a ≤ b) : D_cell l den a ≤ D_cell l den b := by
  unfold D_cell
  by_cases h1 : b < 0
  · rw [if_pos (by omega), if_pos h1]; exact Int.le_refl _
  · rw [if_neg h1]
    by_cases h2 : a < 0
    · rw [if_pos h2]; exact L_atMono h (by omega)
    · rw [if_neg h2]; exact L_atMono h (by omega)

/-- a cell of a print -/
theorem L_fromAt {xs : List Int} {l : List S102} {st : List S55} (h : ∀ x ∈ st, 0 ≤ x.f1 ∧ x.f1 ≤ 36) (hn : st.length ≤ 100) {j : Int} (j0 : 0 ≤ j) (j1 : j < 64) : rd (D_from xs l st) j = D_cell l (rd xs j) (D_in (D_sumAt j st)) := by
  unfold D_from
  rw [rd_tab j0 j1, L_lightAt h hn j0 j1]

theorem L_mirShl {x : Int} (h0 : 0 ≤ x) (h1 : x < 64) : shl .u64 1 x = 2 ^ x.toNat := by
  have h2 := (u64_pow h0 h1).1
  rw [← h2]
  unfold shl
  simp [IntKind.bits]
  rw [Nat.min_eq_left (by omega)]

theorem L_mirFold (m : Int) (hm : U64 m) (d : Nat) : ∀ (a x : Int), U64 a → 0 ≤ x → x + d = 64 → U64 (D_mirror m d a x) ∧ ∀ j : Int, 0 ≤ j → j < 64 → tb (D_mirror m d a x) (p_mir j) = (tb a (p_mir j) || (decide (x ≤ j) && tb m j)) := by
  induction d with
  | zero =>
    intro a x ha h0 hd
    refine ⟨ha, fun j j0 j1 => ?_⟩
    simp only [D_mirror]
    rw [decide_eq_false (by omega)]; simp
  | succ d ih =>
    intro a x ha h0 hd
    simp only [D_mirror]
    have hp : x - x % 8 + 7 - x % 8 = p_mir x := by unfold p_mir; omega
    have hp0 : 0 ≤ p_mir x := by unfold p_mir; omega
    have hp1 : p_mir x < 64 := by unfold p_mir; omega
    rw [hp, L_mirShl hp0 hp1, ← shr_small (k := .u64) (x := m) (y := x) rfl (by simp [IntKind.bits]; omega)]
    have hU := (u64_pow hp0 hp1).2
    have hb := D_bit_tb hm h0
    unfold D_bit at hb
    by_cases q : Go.bits .and .u64 (m / 2 ^ x.toNat) 1 = 1
    · rw [if_pos q]
      obtain ⟨a1, a2⟩ := ih _ (x + 1) (u64_or ha hU) (by omega) (by omega)
      refine ⟨a1, fun j j0 j1 => ?_⟩
      rw [a2 j j0 j1, tb_or ha hU, tb_pow hp0 hp1 (by unfold p_mir; omega)]
      by_cases e : j = x
      · subst e
        rw [hb.1 q, decide_eq_true (show j ≤ j by omega)]; simp
      · rw [decide_eq_false (show ¬ p_mir j = p_mir x by unfold p_mir; omega), Bool.or_false]
        congr 2
        exact decide_eq_decide.mpr (by omega)
    · rw [if_neg q]
      obtain ⟨a1, a2⟩ := ih a (x + 1) ha (by omega) (by omega)
      refine ⟨a1, fun j j0 j1 => ?_⟩
      rw [a2 j j0 j1]
      congr 1
      by_cases e : j = x
      · subst e
        have : tb m j = false := by cases hh : tb m j with
          | false => rfl
          | true => exact absurd (hb.2 hh) q
        rw [this]; simp
      · congr 1
        exact decide_eq_decide.mpr (by omega)

theorem L_mirBit {m : Int} (hm : U64 m) {j : Int} (j0 : 0 ≤ j) (j1 : j < 64) : D_bit (D_mirror m 64 0 0) (p_mir j) ↔ D_bit m j := by
  obtain ⟨a, b⟩ := L_mirFold m hm 64 0 0 u64_zero (by omega) (by omega)
  have hp0 : 0 ≤ p_mir j := by unfold p_mir; omega
  rw [D_bit_tb a hp0, D_bit_tb hm j0, b j j0 j1, tb_zero, decide_eq_true j0]
  simp

theorem L_mirSum {j : Int} (j0 : 0 ≤ j) (j1 : j < 64) : ∀ l : List S55, (∀ x ∈ l, U64 x.f0) → D_sumAt (p_mir j) (l.map D_mirStep) = D_sumAt j l
  | [], _ => rfl
  | x :: r, h => by
    simp only [List.map_cons, D_sumAt, D_mirStep]
    have e := L_mirBit (h x (by simp)) j0 j1
    have := L_mirSum j0 j1 r (fun y hy => h y (by simp [hy]))
    rw [this]
    congr 1
    by_cases q : D_bit x.f0 j
    · rw [if_pos q, if_pos (e.2 q)]
    · rw [if_neg q, if_neg (fun hh => q (e.1 hh))]

theorem L_sumLow (k : Int) : ∀ a : List S55, (∀ x ∈ a, 0 ≤ x.f1 ∧ x.f1 ≤ 36) → D_sumAt k a = 0 ∨ 1000 ≤ D_sumAt k a
  | [], _ => .inl rfl
  | x :: r, h => by
    have h1 := L_sumRange k r (fun y hy => h y (by simp [hy]))
    have h2 := L_tmv (h x (by simp))
    have h3 := L_sumLow k r (fun y hy => h y (by simp [hy]))
    simp only [D_sumAt]
    split <;> omega

theorem L_in0 : D_in 0 = -1 := by decide +kernel

theorem L_foldMn (xs : List Int) : ∀ (k : Nat) (a i : Int), D_foldFrom D_mn xs k a i ≤ a ∧ (∀ j : Int, i ≤ j → j < i + k → D_foldFrom D_mn xs k a i ≤ rd xs j) ∧ (D_foldFrom D_mn xs k a i = a ∨ ∃ j : Int, i ≤ j ∧ j < i + k ∧ rd xs j = D_foldFrom D_mn xs k a i)
  | 0, a, i => ⟨Int.le_refl _, fun j h1 h2 => by omega, .inl rfl⟩
  | k + 1, a, i => by
    simp only [D_foldFrom]
    obtain ⟨h1, h2, h3⟩ := L_foldMn xs k (D_mn a (rd xs i)) (i + 1)
    generalize D_foldFrom D_mn xs k (D_mn a (rd xs i)) (i + 1) = r at h1 h2 h3
    have e : D_mn a (rd xs i) ≤ a ∧ D_mn a (rd xs i) ≤ rd xs i ∧ (D_mn a (rd xs i) = a ∨ D_mn a (rd xs i) = rd xs i) := by unfold D_mn; split <;> omega
    refine ⟨by omega, fun j hj hj2 => ?_, ?_⟩
    · by_cases q : j = i
      · rw [q]; omega
      · exact h2 j (by omega) (by omega)
    · rcases h3 with h3 | ⟨j, a1, a2, a3⟩
      · rcases e.2.2 with q | q
        · exact .inl (by omega)
        · exact .inr ⟨i, by omega, by omega, by omega⟩
      · exact .inr ⟨j, by omega, by omega, a3⟩

theorem L_foldMx (xs : List Int) : ∀ (k : Nat) (a i : Int), a ≤ D_foldFrom D_mx xs k a i ∧ (∀ j : Int, i ≤ j → j < i + k → rd xs j ≤ D_foldFrom D_mx xs k a i)
  | 0, a, i => ⟨Int.le_refl _, fun j h1 h2 => by omega⟩
  | k + 1, a, i => by
    simp only [D_foldFrom]
    obtain ⟨h1, h2⟩ := L_foldMx xs k (D_mx a (rd xs i)) (i + 1)
    generalize D_foldFrom D_mx xs k (D_mx a (rd xs i)) (i + 1) = r at h1 h2
    have e : a ≤ D_mx a (rd xs i) ∧ rd xs i ≤ D_mx a (rd xs i) := by unfold D_mx; split <;> omega
    refine ⟨by omega, fun j hj hj2 => ?_⟩
    by_cases q : j = i
    · rw [q]; omega
    · exact h2 j (by omega) (by omega)

theorem L_lowHigh (xs : List Int) : (∀ j : Int, 0 ≤ j → j < 64 → D_low xs ≤ rd xs j ∧ rd xs j ≤ D_high xs) ∧ ∃ j : Int, 0 ≤ j ∧ j < 64 ∧ rd xs j = D_low xs := by
  obtain ⟨a1, a2, a3⟩ := L_foldMn xs 63 (rd xs 0) 1
  obtain ⟨b1, b2⟩ := L_foldMx xs 63 (rd xs 0) 1
  unfold D_low D_high
  refine ⟨fun j h0 h1 => ?_, ?_⟩
  · by_cases q : j = 0
    · rw [q]; exact ⟨a1, b1⟩
    · exact ⟨a2 j (by omega) (by omega), b2 j (by omega) (by omega)⟩
  · rcases a3 with q | ⟨j, c1, c2, c3⟩
    · exact ⟨0, by omega, by omega, q.symm⟩
    · exact ⟨j, by omega, by omega, c3⟩

theorem L_mirImplLoop (l : List S55) (hn : l.length ≤ 30) (d : Nat) : ∀ (k : Nat) (o : List S55) (i : Int), 0 ≤ i → i + d = l.length → (o.length : Int) ≤ i → 66 * d + 66 ≤ k →
    impl_MirrorSteps.l0 k o l (l.length : Int) i = some (o ++ (l.drop i.toNat).map D_mirStep, 0) := by
  induction d with
  | zero =>
    intro k o i h0 hd ho hk
    obtain ⟨k, rfl⟩ : ∃ m, k = m + 1 := ⟨k - 1, by omega⟩
    simp only [impl_MirrorSteps.l0]
    rw [if_neg (by omega), List.drop_eq_nil_of_le (by omega)]; simp
  | succ d ih =>
    intro k o i h0 hd ho hk
    obtain ⟨k, rfl⟩ : ∃ m, k = m + 1 := ⟨k - 1, by omega⟩
    obtain ⟨hi, e⟩ := L_rdS (l := l) (i := i) h0 (by omega)
    have q : l.drop i.toNat = rd_T55 l i :: l.drop (i + 1).toNat := by rw [List.drop_eq_getElem_cons hi, e, show (i + 1).toNat = i.toNat + 1 by omega]
    simp only [impl_MirrorSteps.l0]
    rw [if_pos (by omega), if_pos h0, if_pos (by omega), L_mirImpl _ _ o l _ i 64 k (k - 65) 0 0 (by omega) (by omega) (by omega)]
    rw [if_pos (by omega), L_w (x := i + 1) (by omega), ih (k - 65) (o ++ [_]) (i + 1) (by omega) (by omega) (by simp; omega) (by omega), q]
    simp [D_mirStep]

/-- MirrorSteps of right steps -/
theorem L_mirStepsOk (l : List S55) (h : D_steps l) {k : Nat} (hk : l.length + 3000 ≤ k) : impl_MirrorSteps.f k l = some (l.map D_mirStep, 0) := by
  have h8 : D_i8s l := fun x hx => by have := h.1 x hx; omega
  have hl := h.2
  unfold impl_MirrorSteps.f
  rw [L_implSteps l h8]
  simp only [Option.bind_some, decide_eq_true_eq]
  rw [if_pos h, L_mirImplLoop l hl l.length k [] 0 (by omega) (by omega) (by simp) (by omega)]
  simp

/-- CurveAt of a right curve -/
theorem L_curveAtOk (l : List S102) (h : D_curve l = true) (h16 : D_i16s l) (hn : l.length ≤ 100) {x : Int} (hx : -200 ≤ x ∧ x ≤ 200) : impl_CurveAt.f 200 l x = some (D_at l x, 0) := by
  unfold impl_CurveAt.f impl_curveCode.f
  rw [L_isPlace, decide_eq_true hx]
  simp only [Option.bind_some]
  rw [L_implCurve l h16 (by omega) (by omega), h]
  simp only [Option.bind_some, if_true]
  rw [(L_at h (x := x) (k := 200) (by omega)).2.1]
  rfl

theorem L_sameStepsRun (R : List S55) (hR : R.length ≤ 1000000) (e : Nat) : ∀ (k : Nat) (i : Int), 0 ≤ i → i + e = R.length → e < k → spec_SameSteps.l0 k R R i = some true := by
  induction e with
  | zero =>
    intro k i h0 h1 hk
    obtain ⟨k, rfl⟩ : ∃ q, k = q + 1 := ⟨k - 1, by omega⟩
    simp only [spec_SameSteps.l0]
    rw [if_neg (by omega)]
  | succ e ih =>
    intro k i h0 h1 hk
    obtain ⟨k, rfl⟩ : ∃ q, k = q + 1 := ⟨k - 1, by omega⟩
    simp only [spec_SameSteps.l0]
    rw [if_pos (by omega), if_pos h0, if_pos (by omega), if_neg (by simp), show wrap64 (i + 1) = i + 1 by unfold wrap64; omega]
    exact ih k (i + 1) (by omega) (by omega) (by omega)
theorem L_sameStepsOk (R : List S55) (hR : R.length ≤ 1000000) : spec_SameSteps.f (R.length + 1) R R = some true := by
  unfold spec_SameSteps.f
  rw [if_pos rfl]
  exact L_sameStepsRun R hR R.length _ 0 (by omega) (by omega) (by omega)
theorem L_sameCurveRun (R : List S102) (hR : R.length ≤ 1000000) (e : Nat) : ∀ (k : Nat) (i : Int), 0 ≤ i → i + e = R.length → e < k → spec_l02Same.l0 k R R i = some true := by
  induction e with
  | zero =>
    intro k i h0 h1 hk
    obtain ⟨k, rfl⟩ : ∃ q, k = q + 1 := ⟨k - 1, by omega⟩
    simp only [spec_l02Same.l0]
    rw [if_neg (by omega)]
  | succ e ih =>
    intro k i h0 h1 hk
    obtain ⟨k, rfl⟩ : ∃ q, k = q + 1 := ⟨k - 1, by omega⟩
    simp only [spec_l02Same.l0]
    rw [if_pos (by omega), if_pos h0, if_pos (by omega), if_neg (by simp), show wrap64 (i + 1) = i + 1 by unfold wrap64; omega]
    exact ih k (i + 1) (by omega) (by omega) (by omega)
theorem L_sameCurveOk (R : List S102) (hR : R.length ≤ 1000000) : spec_SameCurve.f (R.length + 1) R R = some true := by
  unfold spec_SameCurve.f spec_l02Same.f
  rw [if_pos rfl, L_sameCurveRun R hR R.length _ 0 (by omega) (by omega) (by omega)]
  rfl

/-- the whole plain law -/
theorem L_again {xs : List Int} {l : List S102} {st : List S55} {m t : Int} (hd : D_dense xs) (hx : xs.length = 64) (hc : D_curve l = true) (hs : st.length ≤ 4) (h19 : ∀ x ∈ st, U64 x.f0 ∧ 0 ≤ x.f1 ∧ x.f1 ≤ 19) (ht : 0 ≤ t ∧ t < 20) :
    D_steps st ∧ D_steps (st ++ [⟨m, t⟩]) ∧ D_steps (st.map D_mirStep) ∧
    (∀ j : Int, 0 ≤ j → j < 64 → (rd (D_times st) j = 0 ∧ rd (D_light st) j = -1 ∨ (1000 ≤ rd (D_times st) j ∧ rd (D_times st) j ≤ 100000000) ∧ rd (D_light st) j = D_in (rd (D_times st) j) ∧ (-200 ≤ D_in (rd (D_times st) j) - (rd xs j + 5) / 10 ∧ D_in (rd (D_times st) j) - (rd xs j + 5) / 10 ≤ 200) ∧ D_at l (D_in (rd (D_times st) j) - (rd xs j + 5) / 10) = rd (D_from xs l st) j) ∧
      rd (D_from xs l st) j ≤ rd (D_from xs l (st ++ [⟨m, t⟩])) j ∧ rd (D_from (perm 64 p_mir xs) l (st.map D_mirStep)) (p_mir j) = rd (D_from xs l st) j) := by
  have h36 : ∀ x ∈ st, 0 ≤ x.f1 ∧ x.f1 ≤ 36 := fun x hx => by have := (h19 x hx).2; omega
  have hB : ∀ x ∈ st ++ [(⟨m, t⟩ : S55)], 0 ≤ x.f1 ∧ x.f1 ≤ 36 := by
    intro x hx
    rcases List.mem_append.1 hx with q | q
    · exact h36 x q
    · simp only [List.mem_cons, List.not_mem_nil, or_false] at q
      subst q
      exact ⟨ht.1, by show t ≤ 36; omega⟩
  have hM : ∀ x ∈ st.map D_mirStep, 0 ≤ x.f1 ∧ x.f1 ≤ 36 := by
    intro x hx
    obtain ⟨y, hy, rfl⟩ := List.mem_map.1 hx
    exact h36 y hy
  refine ⟨⟨h36, by omega⟩, ⟨hB, by simp; omega⟩, ⟨hM, by simp; omega⟩, fun j j0 j1 => ?_⟩
  have hden : 0 ≤ rd xs j ∧ rd xs j ≤ 400 := arr_rd (P := fun x => 0 ≤ x ∧ x ≤ 400) hd j0 (by omega)
  have eT := L_timesAt h36 (by omega) j0 j1
  have eL := L_lightAt h36 (by omega) j0 j1
  have eF := L_fromAt (xs := xs) (l := l) h36 (by omega) j0 j1
  have hr := L_sumRange j st h36
  obtain ⟨i1, i2, i3, i4⟩ := L_inSpec (D_sumAt j st)
  refine ⟨?_, ?_, ?_⟩
  · rw [eT, eL, eF]
    rcases L_sumLow j st h36 with q | q
    · exact .inl ⟨q, by rw [q]; exact L_in0⟩
    · refine .inr ⟨⟨q, by omega⟩, rfl, by omega, ?_⟩
      have h0 : 0 ≤ D_in (D_sumAt j st) := by
        have e := L_inMono q
        have e2 : D_in 1000 = 0 := L_inTmv (k := 0) (by omega)
        omega
      unfold D_cell
      rw [if_neg (by omega)]
  · rw [eF, L_fromAt (xs := xs) (l := l) hB (by simp; omega) j0 j1, L_sumApp]
    refine L_cellMono hc hden i1 (L_inMono ?_)
    simp only [D_sumAt]
    have := (L_tmv (k := t) (by omega)).1
    split <;> omega
  · have p0 : 0 ≤ p_mir j := by unfold p_mir; omega
    have p1 : p_mir j < 64 := by unfold p_mir; omega
    rw [L_fromAt hM (by simp; omega) p0 p1, L_mirSum j0 j1 st (fun x hx => (h19 x hx).1), rd_perm p0 p1, show p_mir (p_mir j) = j by unfold p_mir; omega, eF]
end Go.Proofs.YtjonocgmofcieaaGreatDoor.Q
