-- Prints of negatives.
import Derived.Test.YticnajjbmdfidaaQx3
import Derived.Test.YticnajjbmdfidaaQx7
import Derived.Test.YticnajjbmdfidaaQx9
import Derived.Test.YticnajjbmdfidaaArrLight
import Derived.Test.YticnajjbmdfidaaArrNeg
import Derived.Test.YticnajjbmdfidaaArrPrint
namespace Go.Proofs.Yticnajjbmdfidaa.Q
open Go.RowKit Go.Proofs.Yticnajjbmdfidaa.PL Go.Proofs.YticnajjbmdfidaaW.PrintWords Go.Proofs.YticnajjbmdfidaaW.PrintLast Go.Proofs.YticnajjbmdfidaaW.PrintMore
attribute [local go_sem] max2_int min2_int max_two min_two max_three min_three max_four min_four
set_option linter.unusedVariables false
set_option linter.unusedSimpArgs false
def tab (n : Nat) (f : Int → Int) : List Int := (List.range n).map (fun k : Nat => f (k : Int))
theorem tab_len (n : Nat) (f : Int → Int) : (tab n f).length = n := by simp [tab]
theorem rd_tab {n : Nat} {f : Int → Int} {i : Int} (h0 : 0 ≤ i) (h1 : i < n) : rd (tab n f) i = f i := by
  unfold tab
  rw [show rd ((List.range n).map (fun k : Nat => f (k : Int))) i = ((List.range n).map (fun k : Nat => f (k : Int)))[i.toNat]'(by simp; omega) by unfold rd; rw [List.getD_eq_getElem?_getD, List.getElem?_eq_getElem (by simp; omega)]; rfl]
  simp [show ((i.toNat : Nat) : Int) = i by omega]
/-- a cell's density: the negative's density, the paper, the light -/
def D_cell (l : List S91) (den light : Int) : Int := if light < 0 then D_at l (-200) else D_at l (light - (den + 5) / 10)
theorem L_printed {l : List S91} (h : D_curve l = true) {den light : Int} (hd : 0 ≤ den ∧ den ≤ 400) (hl : -1 ≤ light ∧ light ≤ 36) {k : Nat} (hk : 13 ≤ k) :
    spec_l03Printed.f k den l light = some (D_cell l den light) ∧ (0 ≤ light → impl_Curve_shade.f k l light den = some (D_cell l den light)) ∧ (light < 0 → impl_Curve_at.f k l (-200) = some (D_cell l den light)) ∧ (0 ≤ D_cell l den light ∧ D_cell l den light ≤ 400) := by
  by_cases hn : light < 0
  · obtain ⟨a1, a2, a3, a4⟩ := L_at h (x := -200) hk
    unfold spec_l03Printed.f D_cell
    rw [if_pos hn, if_pos hn, a1]
    simp only [Option.bind_some]
    rw [L_w16 (x := D_at l (-200)) (by omega)]
    exact ⟨rfl, fun h => by omega, fun _ => a2, a3, a4⟩
  · obtain ⟨a1, a2, a3, a4⟩ := L_at h (x := light - (den + 5) / 10) hk
    unfold spec_l03Printed.f spec_l03Held.f impl_Curve_shade.f D_cell
    rw [if_neg hn, if_neg hn, L_w (x := den) (by omega), L_w (x := den + 5) (by omega), Int.tdiv_eq_ediv_of_nonneg (by omega), L_w (x := (den + 5) / 10) (by omega)]
    simp only [Option.bind_some]
    rw [L_w (x := light - (den + 5) / 10) (by omega), a1, a2]
    simp only [Option.bind_some]
    rw [L_w16 (by omega)]
    exact ⟨rfl, fun _ => rfl, fun h => absurd h hn, a3, a4⟩
def D_from (xs : List Int) (l : List S91) (st : List S76) : List Int := tab 64 (fun k => D_cell l (rd xs k) (rd (D_light st) k))
theorem D_fromLen (xs : List Int) (l : List S91) (st : List S76) : (D_from xs l st).length = 64 := tab_len _ _
theorem D_light_range (st : List S76) {i : Int} (h0 : 0 ≤ i) (h1 : i < 64) : -1 ≤ rd (D_light st) i ∧ rd (D_light st) i ≤ 36 := by
  rw [D_light_rd st h0 h1]; have := L_inSpec (rd (D_times st) i); omega
def D_printOk (xs : List Int) (l : List S91) (st : List S76) : Prop := D_dense xs ∧ D_curve l = true ∧ D_steps st
instance (xs : List Int) (l : List S91) (st : List S76) : Decidable (D_printOk xs l st) := by unfold D_printOk; infer_instance
def D_printFrom (xs : List Int) (l : List S91) (st : List S76) : List Int × Int := if D_printOk xs l st then (D_from xs l st, 0) else (zer 64, 1)
theorem D_printFrom_len (xs : List Int) (l : List S91) (st : List S76) : (D_printFrom xs l st).1.length = 64 := by unfold D_printFrom; split <;> simp [D_fromLen, zer]
theorem D_fromDense {xs : List Int} {l : List S91} (hd : D_dense xs) (hx : xs.length = 64) (hc : D_curve l = true) (st : List S76) : D_dense (D_from xs l st) := by
  intro x hx'
  unfold D_from tab at hx'
  simp only [List.mem_map, List.mem_range] at hx'
  obtain ⟨k, hk, rfl⟩ := hx'
  exact (L_printed hc (arr_rd (P := fun x => 0 ≤ x ∧ x ≤ 400) hd (by omega) (by omega)) (D_light_range st (by omega) (by omega)) (Nat.le_refl 13)).2.2.2
set_option maxHeartbeats 8000000 in
set_option maxRecDepth 100000 in
theorem laws_eqPrint.arr (xs ys : List Int) (hl : xs.length = 64) (hm : ys.length = 64) (w : World) :
    Calls Try.prog 27 #[.agg (nums .i16 xs).toArray, .agg (nums .i16 ys).toArray] w fun e w' => e = .returned (.bool (decide (xs = ys))) ∧ Below w.heap.size w w' := by
  have HL := Aside0.mk hl
  have HM := Aside0.mk hm
  have HA0 := Aside0.mk (arr_new2a w 39 .i16 xs (.cells (nums .i16 ys).toArray 39))
  have HA1 := Aside0.mk (arr_new2b w (.cells (nums .i16 xs).toArray 39) 39 .i16 ys)
  have HB0 := Aside0.mk (arr_below2 w (.cells (nums .i16 xs).toArray 39) (.cells (nums .i16 ys).toArray 39))
  clear hl hm
  go_enter Try.func27, Try.ntmps27
  go_wp2_with fail
  go_loopg [5] 64 (fun kq v5 w' => ∃ (i : Int) (W : World), W = w' ∧ v5 = .int .i64 i ∧ Aside0 (0 ≤ i ∧ i + kq = 64) ∧ Aside0 (∀ j : Int, 0 ≤ j → j < i → rd xs j = rd ys j) ∧
      Aside0 (ArrAt W w.heap.size 39 .i16 xs) ∧ Aside0 (ArrAt W (w.heap.size + 1) 39 .i16 ys) ∧ Aside0 (Below w.heap.size w W))
  case atStart => exact ⟨0, _, rfl, rfl, ⟨by omega⟩, ⟨fun j _ _ => by omega⟩, HA0, HA1, HB0⟩
  case round =>
    clear HA0 HA1 HB0
    obtain ⟨i, W, rfl, rfl, HI, HE, HA, HO, HB⟩ := hrel
    cases gk with
    | zero =>
      have hdec : decide (i < 64) = false := decide_eq_false (by have := HI.out; omega)
      have hall : decide (xs = ys) = true := decide_eq_true (arr_ext (by rw [HL.out, HM.out]) (fun j h0 h1 => HE.out j h0 (by have := HI.out; have := HL.out; omega)))
      go_wp2_with fail
      go_ret
      exact ⟨by rw [hall]; rfl, HB.out⟩
    | succ k1 =>
      have h0 := HI.out.1
      have hi : i < 64 := by have := HI.out.2; omega
      have c1 : W.cell? ⟨w.heap.size, i.toNat, none⟩ = some (.int .i16 (rd xs i)) := HA.out.cell h0 (by rw [HL.out]; omega)
      have c2 : W.cell? ⟨w.heap.size + 1, i.toNat, none⟩ = some (.int .i16 (rd ys i)) := HO.out.cell h0 (by rw [HM.out]; omega)
      by_cases hd : rd xs i = rd ys i
      · have hdd : (rd xs i != rd ys i) = false := by simp [hd]
        have HD1 := Aside0.mk (fun (j : Int) (h1 : 0 ≤ j) (h2 : j < i + 1) => if h : j < i then HE.out j h1 h else (show j = i by omega) ▸ hd)
        clear hd
        go_wp2_with fail
        go_region_held3 (fun w' => w'.cell? ⟨w.heap.size, i.toNat, none⟩ = some (.int .i16 (rd xs i)) ∧ w'.cell? ⟨w.heap.size + 1, i.toNat, none⟩ = some (.int .i16 (rd ys i))) (first | go_keep | fail) (fail)
        go_wp2_with fail
        go_roundg k1
        case measure => omega
        case rel => exact ⟨i + 1, _, rfl, rfl, ⟨by have := HI.out; omega⟩, HD1, ⟨HA.out⟩, ⟨HO.out⟩, ⟨below_drew1 HB.out⟩⟩
      · have hdd : (rd xs i != rd ys i) = true := by simp [hd]
        have hall : decide (xs = ys) = false := decide_eq_false (fun h => hd (by rw [h]))
        clear hd
        go_wp2_with fail
        go_region_held3 (fun w' => w'.cell? ⟨w.heap.size, i.toNat, none⟩ = some (.int .i16 (rd xs i)) ∧ w'.cell? ⟨w.heap.size + 1, i.toNat, none⟩ = some (.int .i16 (rd ys i))) (first | go_keep | fail) (fail)
        go_wp2_with fail
        go_ret
        exact ⟨by rw [hall]; rfl, below_drew1 HB.out⟩
set_option maxHeartbeats 8000000 in
set_option maxRecDepth 100000 in
theorem spec_l03From.arr (g : Nat) (xs : List Int) (hl : xs.length = 64) (A1 : Option Addr) (c1 : Nat) (l : List S91) (A2 : Option Addr) (c2 : Nat) (st : List S76) (w : World) (hr1 : Kd.C k91 w A1 l.length l) (hc1 : l.length ≤ c1) (hr2 : Kd.C k76 w A2 st.length st) (hc2 : st.length ≤ c2) (hA : ArrAt w g 42 .i16 xs) (hd : D_dense xs) (hcv : D_curve l = true) (hth : ∀ x ∈ st, 0 ≤ x.f1 ∧ x.f1 ≤ 36) :
    Calls Try.prog 65 #[.pointer (some ⟨g, 0, none⟩), .slice A1 l.length c1, .slice A2 st.length c2] w fun e w' => e = .returned (.agg (nums .i16 (D_from xs l st)).toArray) ∧ Below w.heap.size w w' := by
  have HX := Aside0.mk hl
  have HR1 := Aside0.mk hr1
  have HC1 := Aside0.mk hc1
  have HR2 := Aside0.mk hr2
  have HC2 := Aside0.mk hc2
  have HD := Aside0.mk hd
  have HCV := Aside0.mk hcv
  have HT := Aside0.mk hth
  have HGW := Aside0.mk hA.lt
  have hba := (Below.refl w.heap.size w).alloc (Nat.le_refl _) (.cells (nums .i16 (zer 64)).toArray 39)
  have HA0 := Aside0.mk (hA.below hba)
  have HZ0 := Aside0.mk (ArrAt.new w 39 .i16 (zer 64))
  have HB0 := Aside0.mk hba
  clear hl hr1 hc1 hr2 hc2 hd hcv hth hA hba
  go_enter Try.func65, Try.ntmps65
  go_wp2_with fail
  refine (spec_l03Light.arr A2 c2 st _ (Kd.C_below HR2.out HB0.out) HC2.out HT.out).mono ?_
  rintro e w1 ⟨rfl, hb⟩
  obtain ⟨L, hL⟩ : ∃ L, L = D_light st := ⟨_, rfl⟩
  have HL := Aside0.mk (show L.length = 64 by rw [hL]; exact D_lightLen st)
  have HLR := Aside0.mk (fun (i : Int) (h0 : 0 ≤ i) (h1 : i < 64) => show -1 ≤ rd L i ∧ rd L i ≤ 36 by rw [hL]; exact D_light_range st h0 h1)
  have HF := Aside0.mk (show D_from xs l st = tab 64 (fun k => D_cell l (rd xs k) (rd L k)) by rw [hL]; rfl)
  rw [← hL]
  have HA1 := Aside0.mk (HA0.out.below hb)
  have HZ1 := Aside0.mk (HZ0.out.below hb)
  have HB1 := Aside0.mk (below_step HB0.out hb)
  have HG := Aside0.mk (show w.heap.size < w1.heap.size from HZ1.out.lt)
  clear hb HA0 HZ0 HB0 hL
  have HQ1 := Aside0.mk (ArrAt.new w1 24 .i64 (zer 64))
  obtain ⟨W2, hW2⟩ : ∃ W2, W2 = (w1.alloc (.cells (nums .i64 (zer 64)).toArray 24)).setRow w1.heap.size (nums .i64 L).toArray := ⟨_, rfl⟩
  have hs2 : W2.heap.size = w1.heap.size + 1 := by rw [hW2]; simp [World.setRow]
  have hb2 : Below w1.heap.size w1 W2 := by rw [hW2]; exact below_row (below_alloc (Below.refl w1.heap.size w1) _) (Nat.le_refl _) _
  have HQ2 := Aside0.mk (show ArrAt W2 w1.heap.size 24 .i64 L by rw [hW2]; exact HQ1.out.row)
  have HP2 := Aside0.mk (ArrAt.newAt (W := W2) hs2 39 .i16 (zer 64))
  have hb3 := below_row (below_alloc (Below.refl W2.heap.size W2) (.cells (nums .i16 (zer 64)).toArray 39)) (show W2.heap.size ≤ w1.heap.size + 1 by omega) (nums .i16 (zer 64)).toArray
  have HA3 := Aside0.mk ((HA1.out.below hb2).below hb3)
  have HZ3 := Aside0.mk ((HZ1.out.below hb2).below hb3)
  have HQ3 := Aside0.mk (HQ2.out.below hb3)
  have HB3 := Aside0.mk (below_step (below_step HB1.out hb2) hb3)
  have HP3 := Aside0.mk (HP2.out.row (ys := zer 64))
  have HW2 := Aside0.mk hW2
  clear hb2 hb3 hW2 HA1 HZ1 HB1
  go_wp2_with (first | (refine arr_store rfl 24 _ _ rfl w1.heap.size .i64 L rfl rfl 24 (zer 64) HQ1.out 64 (by kernel_rfl) (zer_len 64) HL.out ?_; erw [← HW2.out]) | (refine arr_store rfl 39 _ _ rfl (w1.heap.size + 1) .i16 (zer 64) rfl rfl 39 (zer 64) HP2.out 64 (by kernel_rfl) (zer_len 64) (zer_len 64) ?_))
  go_loopg [9] 64 (fun kq v9 w' => ∃ (i : Int) (ys : List Int) (W : World), W = w' ∧ v9 = .int .i64 i ∧ Aside0 (0 ≤ i ∧ i + kq = 64) ∧ Aside0 (ys.length = 64 ∧ ys.take i.toNat = (D_from xs l st).take i.toNat) ∧
      Aside0 (ArrAt W g 42 .i16 xs) ∧ Aside0 (ArrAt W w1.heap.size 24 .i64 L) ∧ Aside0 (ArrAt W (w1.heap.size + 1) 39 .i16 ys) ∧ Aside0 (ArrAt W w.heap.size 39 .i16 (zer 64)) ∧ Aside0 (Below w.heap.size w W))
  case atStart => exact ⟨0, zer 64, _, rfl, rfl, ⟨by omega⟩, ⟨zer_len 64, by simp⟩, HA3, HQ3, HP3, HZ3, HB3⟩
  case round =>
    clear HA3 HQ3 HP3 HZ3 HB3 HQ1 HP2 HQ2 HW2 hs2
    obtain ⟨i, ys, W, rfl, rfl, HI, HY, HA, HQ, HP, HZ, HB⟩ := hrel
    cases gk with
    | zero =>
      have hdec : decide (i < 64) = false := decide_eq_false (by have := HI.out; omega)
      have HL2 := Aside0.mk HY.out.1
      have hys : ys = D_from xs l st := by
        have := HY.out.2
        rw [List.take_of_length_le (by have := HI.out; have := HY.out.1; omega), List.take_of_length_le (by have := HI.out; have := D_fromLen xs l st; omega)] at this
        exact this
      have HYS := Aside0.mk hys
      clear hys
      go_wp2_with (first | (refine arr_load rfl 39 _ rfl (w1.heap.size + 1) rfl 39 .i16 ys HP.out _ Try.underlying39 rfl 64 (by kernel_rfl) HL2.out ?_) | (refine arr_store rfl 39 _ _ rfl w.heap.size .i16 ys rfl rfl 39 (zer 64) HZ.out 64 (by kernel_rfl) (zer_len 64) HL2.out ?_))
      refine bodyPost_ret (results_cell_row rfl _ _ w.heap.size 39 (nums .i16 ys).toArray (0, 0) _ rfl HZ.out.row Try.underlying39 rfl (by rw [show (Array.size (nums .i16 ys).toArray) = 64 by simp [nums, HL2.out]]; kernel_rfl)) rfl ?_
      exact ⟨by rw [← HYS.out], below_row HB.out (Nat.le_refl _) _⟩
    | succ k1 =>
      have h0 := HI.out.1
      have hi : i < 64 := by have := HI.out.2; omega
      have HX1 := Aside0.mk ((L_printed HCV.out (arr_rd (P := fun x => 0 ≤ x ∧ x ≤ 400) HD.out h0 (by rw [HX.out]; omega)) (HLR.out i h0 hi) (Nat.le_refl 13)).1)
      have c1 : W.cell? ⟨g, i.toNat, none⟩ = some (.int .i16 (rd xs i)) := HA.out.cell h0 (by rw [HX.out]; omega)
      have c2 : W.cell? ⟨w1.heap.size, i.toNat, none⟩ = some (.int .i64 (rd L i)) := HQ.out.cell h0 (by rw [HL.out]; omega)
      have d1 : W.drew.cell? ⟨g, i.toNat, none⟩ = some (.int .i16 (rd xs i)) := by simpa using c1
      have d2 : W.drew.cell? ⟨w1.heap.size, i.toNat, none⟩ = some (.int .i64 (rd L i)) := by simpa using c2
      go_wp2_with fail
      refine wp_region_held_drew (S := fun w' => w'.cell? ⟨g, i.toNat, none⟩ = some (.int .i16 (rd xs i)) ∧ w'.cell? ⟨w1.heap.size, i.toNat, none⟩ = some (.int .i64 (rd L i))) (by kernel_rfl) ⟨d1, d2⟩ (fun hHeld => ?_)
      refine wpAnyH_take (i := 0) (v := ?_) rfl (by kernel_rfl) (by kernel_rfl) (by kernel_rfl) (fun _ _ _ h => h) (Or.inl ⟨by rfl, ?_⟩) (by assumption) ?_
      rotate_left
      · intro w hSw
        go_simp
        with_reducible rfl
      try simp only [List.getElem_toArray, List.getElem_cons_succ, List.getElem_cons_zero, Act.put, List.setIfInBounds_toArray, List.set_cons_zero, List.set_cons_succ]
      refine wpAnyH_take (i := 1) (v := ?_) rfl (by kernel_rfl) (by kernel_rfl) (by kernel_rfl) (fun _ _ _ h => h) (Or.inl ⟨by rfl, ?_⟩) (by assumption) ?_
      rotate_left
      · intro w hSw
        go_simp
        with_reducible rfl
      try simp only [List.getElem_toArray, List.getElem_cons_succ, List.getElem_cons_zero, Act.put, List.setIfInBounds_toArray, List.set_cons_zero, List.set_cons_succ]
      refine wpAnyH_take (i := 2) (v := ?_) rfl (by kernel_rfl) (by kernel_rfl) (by kernel_rfl) (fun _ _ _ h => h) (Or.inl ⟨by rfl, ?_⟩) (by assumption) ?_
      rotate_left
      · intro w hSw
        go_simp
        with_reducible rfl
      try simp only [List.getElem_toArray, List.getElem_cons_succ, List.getElem_cons_zero, Act.put, List.setIfInBounds_toArray, List.set_cons_zero, List.set_cons_succ]
      refine wpAnyH_take (i := 3) (v := ?_) rfl (by kernel_rfl) (by kernel_rfl) (by kernel_rfl) (fun _ _ _ h => h) (Or.inl ⟨by rfl, ?_⟩) (by assumption) ?_
      rotate_left
      · intro w hSw
        go_simp
        with_reducible rfl
      try simp only [List.getElem_toArray, List.getElem_cons_succ, List.getElem_cons_zero, Act.put, List.setIfInBounds_toArray, List.set_cons_zero, List.set_cons_succ]
      refine wpAnyH_take (i := 4) (v := ?_) rfl (by kernel_rfl) (by kernel_rfl) (by kernel_rfl) (fun _ _ _ h => h) (Or.inl ⟨by rfl, ?_⟩) (by assumption) ?_
      rotate_left
      · intro w hSw
        go_simp
        with_reducible rfl
      try simp only [List.getElem_toArray, List.getElem_cons_succ, List.getElem_cons_zero, Act.put, List.setIfInBounds_toArray, List.set_cons_zero, List.set_cons_succ]
      refine wpAnyH_take (i := 5) (v := ?_) rfl (by kernel_rfl) (by kernel_rfl) (by kernel_rfl) (fun _ _ _ h => h) (Or.inl ⟨by rfl, ?_⟩) (by assumption) ?_
      rotate_left
      · intro w hSw
        go_simp
        with_reducible rfl
      try simp only [List.getElem_toArray, List.getElem_cons_succ, List.getElem_cons_zero, Act.put, List.setIfInBounds_toArray, List.set_cons_zero, List.set_cons_succ]
      refine wpAnyH_take (i := 6) (v := ?_) rfl (by kernel_rfl) (by kernel_rfl) (by kernel_rfl) (fun _ _ _ h => h) (Or.inl ⟨by rfl, ?_⟩) (by assumption) ?_
      rotate_left
      · intro w hSw
        go_simp
        with_reducible rfl
      try simp only [List.getElem_toArray, List.getElem_cons_succ, List.getElem_cons_zero, Act.put, List.setIfInBounds_toArray, List.set_cons_zero, List.set_cons_succ]
      refine wpAnyH_take (i := 7) (v := ?_) rfl (by kernel_rfl) (by kernel_rfl) (by kernel_rfl) (fun _ _ _ h => h) (Or.inl ⟨by rfl, ?_⟩) (by assumption) ?_
      rotate_left
      · intro w hSw
        go_simp
        with_reducible rfl
      try simp only [List.getElem_toArray, List.getElem_cons_succ, List.getElem_cons_zero, Act.put, List.setIfInBounds_toArray, List.set_cons_zero, List.set_cons_succ]
      refine wpAnyH_take (i := 8) (v := ?_) rfl (by kernel_rfl) (by kernel_rfl) (by kernel_rfl) (fun _ _ _ h => h) (Or.inl ⟨by rfl, ?_⟩) (by assumption) ?_
      rotate_left
      · intro w hSw
        go_simp
        with_reducible rfl
      try simp only [List.getElem_toArray, List.getElem_cons_succ, List.getElem_cons_zero, Act.put, List.setIfInBounds_toArray, List.set_cons_zero, List.set_cons_succ]
      refine wpAnyH_take (i := 9) (v := ?_) rfl (by kernel_rfl) (by kernel_rfl) (by kernel_rfl) (fun _ _ _ h => h) (Or.inl ⟨by rfl, ?_⟩) (by assumption) ?_
      rotate_left
      · intro w hSw
        go_simp
        with_reducible rfl
      try simp only [List.getElem_toArray, List.getElem_cons_succ, List.getElem_cons_zero, Act.put, List.setIfInBounds_toArray, List.set_cons_zero, List.set_cons_succ]
      refine wpAnyH_ready (rs := [10]) (by kernel_rfl) (by simp) ?_
      refine AllReadyH.cons rfl (fun K hK => ?_) AllReadyH.nil
      go_simp
      refine (spec_l03Printed.calls 13 _ _ _ l _ _ _ (Kd.C_below HR1.out (below_drew1 HB.out)) HC1.out HX1.out).mono ?_
      rintro e w2 ⟨rfl, hb⟩
      have HB2 := Aside0.mk (below_step (below_drew1 HB.out) hb)
      have HA2 := Aside0.mk (ArrAt.below (W := W.drew) HA.out hb)
      have HQ2 := Aside0.mk (ArrAt.below (W := W.drew) HQ.out hb)
      have HP2 := Aside0.mk (ArrAt.below (W := W.drew) HP.out hb)
      have HZ2 := Aside0.mk (ArrAt.below (W := W.drew) HZ.out hb)
      clear hb c1 c2 d1 d2
      go_wp2_with fail
      refine hK.out _ _ ⟨HA2.out.cell h0 (by rw [HX.out]; omega), HQ2.out.cell h0 (by rw [HL.out]; omega)⟩ (fun hHeld => ?_)
      clear hK K
      try simp only [List.getElem_toArray, List.getElem_cons_succ, List.getElem_cons_zero, Act.put, List.setIfInBounds_toArray, List.set_cons_zero, List.set_cons_succ]
      refine wpAnyH_take (i := 11) (v := ?_) rfl (by kernel_rfl) (by kernel_rfl) (by kernel_rfl) (fun _ _ _ h => h) (Or.inl ⟨by rfl, ?_⟩) (by assumption) ?_
      rotate_left
      · intro w hSw
        go_simp
        with_reducible rfl
      try simp only [List.getElem_toArray, List.getElem_cons_succ, List.getElem_cons_zero, Act.put, List.setIfInBounds_toArray, List.set_cons_zero, List.set_cons_succ]
      have c3 : w2.cell? ⟨w1.heap.size + 1, i.toNat, none⟩ = some (.int .i16 (rd ys i)) := HP2.out.cell h0 (by rw [HY.out.1]; omega)
      have f3 := HP2.out.frozen i.toNat
      refine wpAnyH_ready (rs := [12]) (by kernel_rfl) (by simp) ?_
      refine AllReadyH.cons rfl (fun K hK => ?_) AllReadyH.nil
      go_simp
      refine hK.out _ _ ⟨(HA2.out.other (c := w1.heap.size + 1) (by have := HGW.out; have := HG.out; omega) _ _).cell h0 (by rw [HX.out]; omega), (HQ2.out.other (c := w1.heap.size + 1) (by omega) _ _).cell h0 (by rw [HL.out]; omega)⟩ (fun hHeld => ?_)
      clear hK K c3 f3
      try simp only [List.getElem_toArray, List.getElem_cons_succ, List.getElem_cons_zero, Act.put, List.setIfInBounds_toArray, List.set_cons_zero, List.set_cons_succ]
      refine wpAnyH_done (by kernel_rfl) ?_ _
      clear hHeld
      go_wp2_with fail
      go_roundg k1
      case measure => omega
      case rel =>
        refine ⟨i + 1, ys.set i.toNat (rd (D_from xs l st) i), _, rfl, rfl, ⟨by have := HI.out; omega⟩, ⟨by simpa using HY.out.1, arr_take_set h0 (by rw [HY.out.1]; omega) (by rw [D_fromLen]; omega) HY.out.2⟩,
          ⟨HA2.out.other (by have := HGW.out; have := HG.out; omega) _ _⟩, ⟨HQ2.out.other (by omega) _ _⟩, ⟨?_⟩, ⟨HZ2.out.other (by have := HG.out; omega) _ _⟩, ⟨below_set HB2.out (by have := HG.out; omega)⟩⟩
        rw [HF.out, rd_tab h0 hi]
        exact HP2.out.set i _
set_option maxHeartbeats 8000000 in
set_option maxRecDepth 100000 in
theorem impl_printFrom.arr (xs : List Int) (hl : xs.length = 64) (A1 : Option Addr) (c1 : Nat) (l : List S91) (A2 : Option Addr) (c2 : Nat) (st : List S76) (w : World) (hr1 : Kd.C k91 w A1 l.length l) (hc1 : l.length ≤ c1) (hr2 : Kd.C k76 w A2 st.length st) (hc2 : st.length ≤ c2) (hd : D_dense xs) (hcv : D_curve l = true) (hth : ∀ x ∈ st, 0 ≤ x.f1 ∧ x.f1 ≤ 36) :
    Calls Try.prog 69 #[.agg (nums .i16 xs).toArray, .slice A1 l.length c1, .slice A2 st.length c2] w fun e w' => e = .returned (.agg (nums .i16 (D_from xs l st)).toArray) ∧ Below w.heap.size w w' := by
  have HX := Aside0.mk hl
  have HR1 := Aside0.mk hr1
  have HC1 := Aside0.mk hc1
  have HR2 := Aside0.mk hr2
  have HC2 := Aside0.mk hc2
  have HD := Aside0.mk hd
  have HCV := Aside0.mk hcv
  have HT := Aside0.mk hth
  have HA1 := Aside0.mk (xalloc3_0 w (.cells (nums .i16 xs).toArray 42) (.cells (nums .i16 (zer 64)).toArray 39) (.cells (nums .i16 (zer 64)).toArray 39))
  have HZ1 := Aside0.mk (xalloc3_1 w (.cells (nums .i16 xs).toArray 42) (.cells (nums .i16 (zer 64)).toArray 39) (.cells (nums .i16 (zer 64)).toArray 39))
  have HP1 := Aside0.mk (show ArrAt (((w.alloc (.cells (nums .i16 xs).toArray 42)).alloc (.cells (nums .i16 (zer 64)).toArray 39)).alloc (.cells (nums .i16 (zer 64)).toArray 39)) (w.heap.size + 2) 39 .i16 (zer 64) from xalloc3_2 w _ _ _)
  have HA2 := Aside0.mk (show ArrAt _ w.heap.size 42 .i16 xs from ArrAt.rowOther (c := w.heap.size + 2) HA1.out (by omega) (nums .i16 (zer 64)).toArray)
  have HZ2 := Aside0.mk (show ArrAt _ (w.heap.size + 1) 39 .i16 (zer 64) from ArrAt.rowOther (c := w.heap.size + 2) HZ1.out (by omega) (nums .i16 (zer 64)).toArray)
  have HP2 := Aside0.mk (HP1.out.row (ys := zer 64))
  have HB2 := Aside0.mk (below_row (xalloc3_below w (.cells (nums .i16 xs).toArray 42) (.cells (nums .i16 (zer 64)).toArray 39) (.cells (nums .i16 (zer 64)).toArray 39)) (by omega : w.heap.size ≤ w.heap.size + 2) (nums .i16 (zer 64)).toArray)
  clear hl hr1 hc1 hr2 hc2 hd hcv hth HA1 HZ1
  go_enter Try.func69, Try.ntmps69
  go_wp2_with (first | (refine arr_store rfl 39 _ _ rfl (w.heap.size + 2) .i16 (zer 64) rfl rfl 39 (zer 64) HP1.out 64 (by kernel_rfl) (zer_len 64) (zer_len 64) ?_))
  refine (impl_lightOn.arr A2 c2 st _ (Kd.C_below HR2.out HB2.out) HC2.out HT.out).mono ?_
  rintro e w1 ⟨rfl, hb⟩
  obtain ⟨L, hL⟩ : ∃ L, L = D_light st := ⟨_, rfl⟩
  have HL := Aside0.mk (show L.length = 64 by rw [hL]; exact D_lightLen st)
  have HLR := Aside0.mk (fun (i : Int) (h0 : 0 ≤ i) (h1 : i < 64) => show -1 ≤ rd L i ∧ rd L i ≤ 36 by rw [hL]; exact D_light_range st h0 h1)
  have HF := Aside0.mk (show D_from xs l st = tab 64 (fun k => D_cell l (rd xs k) (rd L k)) by rw [hL]; rfl)
  rw [← hL]
  have HA3 := Aside0.mk (HA2.out.below hb)
  have HZ3 := Aside0.mk (HZ2.out.below hb)
  have HP3 := Aside0.mk (HP2.out.below hb)
  have HB3 := Aside0.mk (below_step HB2.out hb)
  clear hb HA2 HZ2 HP2 HB2 HP1 hL
  go_wp2_with fail
  go_loopg [13] 64 (fun kq v13 w' => ∃ (i : Int) (ys : List Int) (W : World), W = w' ∧ v13 = .int .i64 i ∧ Aside0 (0 ≤ i ∧ i + kq = 64) ∧ Aside0 (ys.length = 64 ∧ ys.take i.toNat = (D_from xs l st).take i.toNat) ∧
      Aside0 (ArrAt W w.heap.size 42 .i16 xs) ∧ Aside0 (ArrAt W (w.heap.size + 2) 39 .i16 ys) ∧ Aside0 (ArrAt W (w.heap.size + 1) 39 .i16 (zer 64)) ∧ Aside0 (Below w.heap.size w W))
  case atStart => exact ⟨0, zer 64, _, rfl, rfl, ⟨by omega⟩, ⟨zer_len 64, by simp⟩, HA3, HP3, HZ3, HB3⟩
  case round =>
    clear HA3 HP3 HZ3 HB3
    obtain ⟨i, ys, W, rfl, rfl, HI, HY, HA, HP, HZ, HB⟩ := hrel
    cases gk with
    | zero =>
      have hdec : decide (i < 64) = false := decide_eq_false (by have := HI.out; omega)
      have HL2 := Aside0.mk HY.out.1
      have hys : ys = D_from xs l st := by
        have := HY.out.2
        rw [List.take_of_length_le (by have := HI.out; have := HY.out.1; omega), List.take_of_length_le (by have := HI.out; have := D_fromLen xs l st; omega)] at this
        exact this
      have HYS := Aside0.mk hys
      clear hys
      go_wp2_with (first | (refine arr_load rfl 39 _ rfl (w.heap.size + 1 + 1) rfl 39 .i16 ys HP.out _ Try.underlying39 rfl 64 (by kernel_rfl) HL2.out ?_) | (refine arr_store rfl 39 _ _ rfl (w.heap.size + 1) .i16 ys rfl rfl 39 (zer 64) HZ.out 64 (by kernel_rfl) (zer_len 64) HL2.out ?_))
      refine bodyPost_ret (results_cell_row rfl _ _ (w.heap.size + 1) 39 (nums .i16 ys).toArray (0, 0) _ rfl HZ.out.row Try.underlying39 rfl (by rw [show (Array.size (nums .i16 ys).toArray) = 64 by simp [nums, HL2.out]]; kernel_rfl)) rfl ?_
      exact ⟨by rw [← HYS.out], below_row HB.out (by omega) _⟩
    | succ k1 =>
      have h0 := HI.out.1
      have hi : i < 64 := by have := HI.out.2; omega
      have hx := arr_index (k := .i64) (xs := L) Try.underlying24 szI64 agI64 h0 (by rw [HL.out]; omega) HL.out
      have HX1 := Aside0.mk (L_printed HCV.out (arr_rd (P := fun x => 0 ≤ x ∧ x ≤ 400) HD.out h0 (by rw [HX.out]; omega)) (HLR.out i h0 hi) (Nat.le_refl 13))
      have HE9 := Aside0.mk (show wrap64 (i + 1) = i + 1 by unfold wrap64; omega)
      by_cases hneg : rd L i < 0
      · have hdd : decide (rd L i < 0) = true := decide_eq_true hneg
        have HX2 := Aside0.mk (HX1.out.2.2.1 hneg)
        have HW16 := Aside0.mk (show IntKind.i16.wrap (D_cell l (rd xs i) (rd L i)) = D_cell l (rd xs i) (rd L i) from L_w16 (by have := HX1.out.2.2.2; omega))
        clear hneg
        go_wp2_with fail
        refine (impl_Curve_at.calls 13 _ _ l (-200) _ _ (Kd.C_below HR1.out HB.out) HC1.out HX2.out).mono ?_
        rintro e w2 ⟨rfl, hb⟩
        have HB2 := Aside0.mk (below_step HB.out hb)
        have HA2 := Aside0.mk (HA.out.below hb)
        have HP2 := Aside0.mk (HP.out.below hb)
        have HZ2 := Aside0.mk (HZ.out.below hb)
        clear hb hx HB HA HP HZ
        have c3 : w2.cell? ⟨w.heap.size + 2, i.toNat, none⟩ = some (.int .i16 (rd ys i)) := HP2.out.cell h0 (by rw [HY.out.1]; omega)
        have f3 := HP2.out.frozen i.toNat
        have hw16 := HW16.out
        go_wp2_with fail
        clear hw16
        go_roundg k1
        case measure => omega
        case rel =>
          refine ⟨i + 1, ys.set i.toNat (rd (D_from xs l st) i), _, rfl, rfl, ⟨by have := HI.out; omega⟩, ⟨by simpa using HY.out.1, arr_take_set h0 (by rw [HY.out.1]; omega) (by rw [D_fromLen]; omega) HY.out.2⟩,
            ⟨HA2.out.other (by omega) _ _⟩, ⟨?_⟩, ⟨HZ2.out.other (by omega) _ _⟩, ⟨below_set HB2.out (by omega)⟩⟩
          rw [HF.out, rd_tab h0 hi]
          exact HP2.out.set i _
      · have hdd : decide (rd L i < 0) = false := decide_eq_false hneg
        have HX2 := Aside0.mk (HX1.out.2.1 (by omega))
        have c1 : W.cell? ⟨w.heap.size, i.toNat, none⟩ = some (.int .i16 (rd xs i)) := HA.out.cell h0 (by rw [HX.out]; omega)
        clear hneg
        go_wp2_with fail
        refine (impl_Curve_shade.calls 13 _ _ l _ _ _ _ (Kd.C_below HR1.out HB.out) HC1.out HX2.out).mono ?_
        rintro e w2 ⟨rfl, hb⟩
        have HB2 := Aside0.mk (below_step HB.out hb)
        have HA2 := Aside0.mk (HA.out.below hb)
        have HP2 := Aside0.mk (HP.out.below hb)
        have HZ2 := Aside0.mk (HZ.out.below hb)
        clear hb hx HB HA HP HZ c1
        have c3 : w2.cell? ⟨w.heap.size + 2, i.toNat, none⟩ = some (.int .i16 (rd ys i)) := HP2.out.cell h0 (by rw [HY.out.1]; omega)
        have f3 := HP2.out.frozen i.toNat
        go_wp2_with fail
        go_roundg k1
        case measure => omega
        case rel =>
          refine ⟨i + 1, ys.set i.toNat (rd (D_from xs l st) i), _, rfl, rfl, ⟨by have := HI.out; omega⟩, ⟨by simpa using HY.out.1, arr_take_set h0 (by rw [HY.out.1]; omega) (by rw [D_fromLen]; omega) HY.out.2⟩,
            ⟨HA2.out.other (by omega) _ _⟩, ⟨?_⟩, ⟨HZ2.out.other (by omega) _ _⟩, ⟨below_set HB2.out (by omega)⟩⟩
          rw [HF.out, rd_tab h0 hi]
          exact HP2.out.set i _
set_option maxHeartbeats 8000000 in
set_option maxRecDepth 100000 in
theorem spec_PrintFrom.arr (xs : List Int) (hl : xs.length = 64) (h16 : ∀ x ∈ xs, -32768 ≤ x ∧ x ≤ 32767) (A1 : Option Addr) (c1 : Nat) (l : List S91) (A2 : Option Addr) (c2 : Nat) (st : List S76) (w : World) (hr1 : Kd.C k91 w A1 l.length l) (hc1 : l.length ≤ c1) (hr2 : Kd.C k76 w A2 st.length st) (hc2 : st.length ≤ c2) (h1 : D_i16s l) (n1 : l.length ≤ 140737488351232) (h8 : D_i8s st) (n2 : st.length ≤ 140737488351232) :
    Calls Try.prog 23 #[.agg (nums .i16 xs).toArray, .slice A1 l.length c1, .slice A2 st.length c2] w fun e w' => e = .returned (.tuple #[.agg (nums .i16 (D_printFrom xs l st).1).toArray, .int .i64 (D_printFrom xs l st).2]) ∧ Below w.heap.size w w' := by
  have HX := Aside0.mk hl
  have H16 := Aside0.mk h16
  have HC1 := Aside0.mk hc1
  have HC2 := Aside0.mk hc2
  have H1 := Aside0.mk h1
  have N1 := Aside0.mk n1
  have H8 := Aside0.mk h8
  have N2 := Aside0.mk n2
  have hba := arr_below2 w (.cells (nums .i16 xs).toArray 42) (.cells (nums .i16 (zer 64)).toArray 39)
  have HA := Aside0.mk (arr_new2a w 42 .i16 xs (.cells (nums .i16 (zer 64)).toArray 39))
  have HZ := Aside0.mk (arr_new2b w (.cells (nums .i16 xs).toArray 42) 39 .i16 (zer 64))
  have HB := Aside0.mk hba
  have HR1 := Aside0.mk (Kd.C_below hr1 hba)
  have HR2 := Aside0.mk (Kd.C_below hr2 hba)
  clear hl h16 hr1 hc1 hr2 hc2 h1 n1 h8 n2 hba
  go_enter Try.func23, Try.ntmps23
  have HZL := Aside0.mk (zer_len 64)
  go_wp2_with fail
  refine (spec_l03Negative.arr w.heap.size xs HX.out H16.out _ HA.out).mono ?_
  rintro e w1 ⟨rfl, hb⟩
  have HA_1 := Aside0.mk (ArrAt.below HA.out hb)
  have HZ_1 := Aside0.mk (ArrAt.below HZ.out hb)
  have HB_1 := Aside0.mk (below_step HB.out hb)
  have HR1_1 := Aside0.mk (Kd.C_below HR1.out hb)
  have HR2_1 := Aside0.mk (Kd.C_below HR2.out hb)
  clear hb HA HZ HB HR1 HR2
  by_cases hq : D_dense xs
  · have hdd : decide (D_dense xs) = true := decide_eq_true hq
    have HQ0 := Aside0.mk hq
    clear hq
    go_wp2_with fail
    refine (spec_l02Ok.calls (l.length + 1) _ _ l _ _ HR1_1.out HC1.out (L_specCurve l H1.out N1.out (Nat.lt_succ_self _))).mono ?_
    rintro e w2 ⟨rfl, hb⟩
    have HA_2 := Aside0.mk (ArrAt.below HA_1.out hb)
    have HZ_2 := Aside0.mk (ArrAt.below HZ_1.out hb)
    have HB_2 := Aside0.mk (below_step HB_1.out hb)
    have HR1_2 := Aside0.mk (Kd.C_below HR1_1.out hb)
    have HR2_2 := Aside0.mk (Kd.C_below HR2_1.out hb)
    clear hb HA_1 HZ_1 HB_1 HR1_1 HR2_1
    by_cases hq : D_curve l = true
    · have HQ1 := Aside0.mk hq
      go_wp2_with fail
      refine (spec_l03Ok.calls (st.length + 1) _ _ st _ _ HR2_2.out HC2.out (L_stepsOk st H8.out N2.out (Nat.lt_succ_self _))).mono ?_
      rintro e w3 ⟨rfl, hb⟩
      have HA_3 := Aside0.mk (ArrAt.below HA_2.out hb.below)
      have HZ_3 := Aside0.mk (ArrAt.below HZ_2.out hb.below)
      have HB_3 := Aside0.mk (below_step HB_2.out hb.below)
      have HR1_3 := Aside0.mk (Kd.C_below HR1_2.out hb.below)
      have HR2_3 := Aside0.mk (Kd.C_below HR2_2.out hb.below)
      clear hb HA_2 HZ_2 HB_2 HR1_2 HR2_2
      by_cases hq : D_steps st
      · have hdd : decide (D_steps st) = true := decide_eq_true hq
        have HQ2 := Aside0.mk hq
        clear hq
        have HE := Aside0.mk (show D_printFrom xs l st = (D_from xs l st, 0) from if_pos ⟨HQ0.out, HQ1.out, HQ2.out⟩)
        go_wp2_with fail
        refine (spec_l03From.arr w.heap.size xs HX.out _ _ l _ _ st _ HR1_3.out HC1.out HR2_3.out HC2.out HA_3.out HQ0.out HQ1.out HQ2.out.1).mono ?_
        rintro e w4 ⟨rfl, hb⟩
        have HA_4 := Aside0.mk (ArrAt.below HA_3.out hb)
        have HZ_4 := Aside0.mk (ArrAt.below HZ_3.out hb)
        have HB_4 := Aside0.mk (below_step HB_3.out hb)
        have HR1_4 := Aside0.mk (Kd.C_below HR1_3.out hb)
        have HR2_4 := Aside0.mk (Kd.C_below HR2_3.out hb)
        clear hb HA_3 HZ_3 HB_3 HR1_3 HR2_3
        obtain ⟨Z, hZ⟩ : ∃ Z, Z = D_from xs l st := ⟨_, rfl⟩
        have HL := Aside0.mk (show Z.length = 64 by rw [hZ]; exact D_fromLen xs l st)
        rw [← hZ]
        have HZZ := Aside0.mk hZ
        clear hZ
        go_wp2_with (first | (refine arr_store rfl 39 _ _ rfl (w.heap.size + 1) .i16 Z rfl rfl 39 (zer 64) HZ_4.out 64 (by kernel_rfl) (zer_len 64) HL.out ?_))
        refine bodyPost_ret (results_ct rfl _ _ (w.heap.size + 1) 39 (nums .i16 Z).toArray (0, 0) _ rfl HZ_4.out.row Try.underlying39 rfl (by rw [show (Array.size (nums .i16 Z).toArray) = 64 by simp [nums, HL.out]]; kernel_rfl)) rfl ?_
        exact ⟨by rw [HE.out, HZZ.out]; rfl, below_row HB_4.out (by omega) _⟩
      · have hdd : decide (D_steps st) = false := decide_eq_false hq
        have HE := Aside0.mk (show D_printFrom xs l st = (zer 64, 1) from if_neg (fun h => hq h.2.2))
        clear hq
        go_wp2_with (first | (refine arr_store rfl 39 _ _ rfl (w.heap.size + 1) .i16 (zer 64) rfl rfl 39 (zer 64) HZ_3.out 64 (by kernel_rfl) (zer_len 64) (zer_len 64) ?_))
        refine bodyPost_ret (results_ct rfl _ _ (w.heap.size + 1) 39 (nums .i16 (zer 64)).toArray (0, 0) _ rfl HZ_3.out.row Try.underlying39 rfl (by rw [show (Array.size (nums .i16 (zer 64)).toArray) = 64 by simp [nums, zer]]; kernel_rfl)) rfl ?_
        exact ⟨by rw [HE.out]; rfl, below_row HB_3.out (by omega) _⟩
    · have hdd : D_curve l = false := Bool.eq_false_iff.mpr hq
      have HE := Aside0.mk (show D_printFrom xs l st = (zer 64, 1) from if_neg (fun h => hq h.2.1))
      clear hq
      go_wp2_with (first | (refine arr_store rfl 39 _ _ rfl (w.heap.size + 1) .i16 (zer 64) rfl rfl 39 (zer 64) HZ_2.out 64 (by kernel_rfl) (zer_len 64) (zer_len 64) ?_))
      refine bodyPost_ret (results_ct rfl _ _ (w.heap.size + 1) 39 (nums .i16 (zer 64)).toArray (0, 0) _ rfl HZ_2.out.row Try.underlying39 rfl (by rw [show (Array.size (nums .i16 (zer 64)).toArray) = 64 by simp [nums, zer]]; kernel_rfl)) rfl ?_
      exact ⟨by rw [HE.out]; rfl, below_row HB_2.out (by omega) _⟩
  · have hdd : decide (D_dense xs) = false := decide_eq_false hq
    have HE := Aside0.mk (show D_printFrom xs l st = (zer 64, 1) from if_neg (fun h => hq h.1))
    clear hq
    go_wp2_with (first | (refine arr_store rfl 39 _ _ rfl (w.heap.size + 1) .i16 (zer 64) rfl rfl 39 (zer 64) HZ_1.out 64 (by kernel_rfl) (zer_len 64) (zer_len 64) ?_))
    refine bodyPost_ret (results_ct rfl _ _ (w.heap.size + 1) 39 (nums .i16 (zer 64)).toArray (0, 0) _ rfl HZ_1.out.row Try.underlying39 rfl (by rw [show (Array.size (nums .i16 (zer 64)).toArray) = 64 by simp [nums, zer]]; kernel_rfl)) rfl ?_
    exact ⟨by rw [HE.out]; rfl, below_row HB_1.out (by omega) _⟩
set_option maxHeartbeats 8000000 in
set_option maxRecDepth 100000 in
theorem impl_PrintFrom.arr (xs : List Int) (hl : xs.length = 64) (h16 : ∀ x ∈ xs, -32768 ≤ x ∧ x ≤ 32767) (A1 : Option Addr) (c1 : Nat) (l : List S91) (A2 : Option Addr) (c2 : Nat) (st : List S76) (w : World) (hr1 : Kd.C k91 w A1 l.length l) (hc1 : l.length ≤ c1) (hr2 : Kd.C k76 w A2 st.length st) (hc2 : st.length ≤ c2) (h1 : D_i16s l) (n1 : l.length ≤ 140737488351232) (h8 : D_i8s st) (n2 : st.length ≤ 140737488351232) :
    Calls Try.prog 26 #[.agg (nums .i16 xs).toArray, .slice A1 l.length c1, .slice A2 st.length c2] w fun e w' => e = .returned (.tuple #[.agg (nums .i16 (D_printFrom xs l st).1).toArray, .int .i64 (D_printFrom xs l st).2]) ∧ Below w.heap.size w w' := by
  have HX := Aside0.mk hl
  have H16 := Aside0.mk h16
  have HC1 := Aside0.mk hc1
  have HC2 := Aside0.mk hc2
  have H1 := Aside0.mk h1
  have N1 := Aside0.mk n1
  have H8 := Aside0.mk h8
  have N2 := Aside0.mk n2
  have hba := arr_below2 w (.cells (nums .i16 xs).toArray 42) (.cells (nums .i16 (zer 64)).toArray 39)
  have HA := Aside0.mk (arr_new2a w 42 .i16 xs (.cells (nums .i16 (zer 64)).toArray 39))
  have HZ := Aside0.mk (arr_new2b w (.cells (nums .i16 xs).toArray 42) 39 .i16 (zer 64))
  have HB := Aside0.mk hba
  have HR1 := Aside0.mk (Kd.C_below hr1 hba)
  have HR2 := Aside0.mk (Kd.C_below hr2 hba)
  clear hl h16 hr1 hc1 hr2 hc2 h1 n1 h8 n2 hba
  go_enter Try.func26, Try.ntmps26
  have HZL := Aside0.mk (zer_len 64)
  go_wp2_with (first | (refine arr_load rfl 42 _ rfl w.heap.size rfl 42 .i16 xs HA.out _ Try.underlying42 rfl 64 (by kernel_rfl) HX.out ?_) | (refine arr_load rfl 39 _ rfl (w.heap.size + 1) rfl 39 .i16 (zer 64) HZ.out _ Try.underlying39 rfl 64 (by kernel_rfl) HZL.out ?_))
  refine (impl_ValidNegative.arr xs HX.out H16.out _).mono ?_
  rintro e w1 ⟨rfl, hb⟩
  have HA_1 := Aside0.mk (ArrAt.below HA.out hb)
  have HZ_1 := Aside0.mk (ArrAt.below HZ.out hb)
  have HB_1 := Aside0.mk (below_step HB.out hb)
  have HR1_1 := Aside0.mk (Kd.C_below HR1.out hb)
  have HR2_1 := Aside0.mk (Kd.C_below HR2.out hb)
  clear hb HA HZ HB HR1 HR2
  by_cases hq : D_dense xs
  · have hdd : decide (D_dense xs) = true := decide_eq_true hq
    have HQ0 := Aside0.mk hq
    clear hq
    go_wp2_with fail
    refine (impl_ValidCurve.calls (l.length + 1) _ _ l _ _ HR1_1.out HC1.out (L_implCurve l H1.out N1.out (Nat.lt_succ_self _))).mono ?_
    rintro e w2 ⟨rfl, hb⟩
    have HA_2 := Aside0.mk (ArrAt.below HA_1.out hb)
    have HZ_2 := Aside0.mk (ArrAt.below HZ_1.out hb)
    have HB_2 := Aside0.mk (below_step HB_1.out hb)
    have HR1_2 := Aside0.mk (Kd.C_below HR1_1.out hb)
    have HR2_2 := Aside0.mk (Kd.C_below HR2_1.out hb)
    clear hb HA_1 HZ_1 HB_1 HR1_1 HR2_1
    by_cases hq : D_curve l = true
    · have HQ1 := Aside0.mk hq
      go_wp2_with fail
      refine (impl_ValidSteps.calls _ _ st _ _ HR2_2.out HC2.out (L_implSteps st H8.out)).mono ?_
      rintro e w3 ⟨rfl, hb⟩
      have HA_3 := Aside0.mk (ArrAt.below HA_2.out hb)
      have HZ_3 := Aside0.mk (ArrAt.below HZ_2.out hb)
      have HB_3 := Aside0.mk (below_step HB_2.out hb)
      have HR1_3 := Aside0.mk (Kd.C_below HR1_2.out hb)
      have HR2_3 := Aside0.mk (Kd.C_below HR2_2.out hb)
      clear hb HA_2 HZ_2 HB_2 HR1_2 HR2_2
      by_cases hq : D_steps st
      · have hdd : decide (D_steps st) = true := decide_eq_true hq
        have HQ2 := Aside0.mk hq
        clear hq
        have HE := Aside0.mk (show D_printFrom xs l st = (D_from xs l st, 0) from if_pos ⟨HQ0.out, HQ1.out, HQ2.out⟩)
        go_wp2_with (first | (refine arr_load rfl 42 _ rfl w.heap.size rfl 42 .i16 xs HA_3.out _ Try.underlying42 rfl 64 (by kernel_rfl) HX.out ?_) | (refine arr_load rfl 39 _ rfl (w.heap.size + 1) rfl 39 .i16 (zer 64) HZ_3.out _ Try.underlying39 rfl 64 (by kernel_rfl) HZL.out ?_))
        refine (impl_printFrom.arr xs HX.out _ _ l _ _ st _ HR1_3.out HC1.out HR2_3.out HC2.out HQ0.out HQ1.out HQ2.out.1).mono ?_
        rintro e w4 ⟨rfl, hb⟩
        have HA_4 := Aside0.mk (ArrAt.below HA_3.out hb)
        have HZ_4 := Aside0.mk (ArrAt.below HZ_3.out hb)
        have HB_4 := Aside0.mk (below_step HB_3.out hb)
        have HR1_4 := Aside0.mk (Kd.C_below HR1_3.out hb)
        have HR2_4 := Aside0.mk (Kd.C_below HR2_3.out hb)
        clear hb HA_3 HZ_3 HB_3 HR1_3 HR2_3
        obtain ⟨Z, hZ⟩ : ∃ Z, Z = D_from xs l st := ⟨_, rfl⟩
        have HL := Aside0.mk (show Z.length = 64 by rw [hZ]; exact D_fromLen xs l st)
        rw [← hZ]
        have HZZ := Aside0.mk hZ
        clear hZ
        go_wp2_with (first | (refine arr_store rfl 39 _ _ rfl (w.heap.size + 1) .i16 Z rfl rfl 39 (zer 64) HZ_4.out 64 (by kernel_rfl) (zer_len 64) HL.out ?_))
        refine bodyPost_ret (results_ct rfl _ _ (w.heap.size + 1) 39 (nums .i16 Z).toArray (0, 0) _ rfl HZ_4.out.row Try.underlying39 rfl (by rw [show (Array.size (nums .i16 Z).toArray) = 64 by simp [nums, HL.out]]; kernel_rfl)) rfl ?_
        exact ⟨by rw [HE.out, HZZ.out]; rfl, below_row HB_4.out (by omega) _⟩
      · have hdd : decide (D_steps st) = false := decide_eq_false hq
        have HE := Aside0.mk (show D_printFrom xs l st = (zer 64, 1) from if_neg (fun h => hq h.2.2))
        clear hq
        go_wp2_with (first | (refine arr_store rfl 39 _ _ rfl (w.heap.size + 1) .i16 (zer 64) rfl rfl 39 (zer 64) HZ_3.out 64 (by kernel_rfl) (zer_len 64) (zer_len 64) ?_))
        refine bodyPost_ret (results_ct rfl _ _ (w.heap.size + 1) 39 (nums .i16 (zer 64)).toArray (0, 0) _ rfl HZ_3.out.row Try.underlying39 rfl (by rw [show (Array.size (nums .i16 (zer 64)).toArray) = 64 by simp [nums, zer]]; kernel_rfl)) rfl ?_
        exact ⟨by rw [HE.out]; rfl, below_row HB_3.out (by omega) _⟩
    · have hdd : D_curve l = false := Bool.eq_false_iff.mpr hq
      have HE := Aside0.mk (show D_printFrom xs l st = (zer 64, 1) from if_neg (fun h => hq h.2.1))
      clear hq
      go_wp2_with (first | (refine arr_store rfl 39 _ _ rfl (w.heap.size + 1) .i16 (zer 64) rfl rfl 39 (zer 64) HZ_2.out 64 (by kernel_rfl) (zer_len 64) (zer_len 64) ?_))
      refine bodyPost_ret (results_ct rfl _ _ (w.heap.size + 1) 39 (nums .i16 (zer 64)).toArray (0, 0) _ rfl HZ_2.out.row Try.underlying39 rfl (by rw [show (Array.size (nums .i16 (zer 64)).toArray) = 64 by simp [nums, zer]]; kernel_rfl)) rfl ?_
      exact ⟨by rw [HE.out]; rfl, below_row HB_2.out (by omega) _⟩
  · have hdd : decide (D_dense xs) = false := decide_eq_false hq
    have HE := Aside0.mk (show D_printFrom xs l st = (zer 64, 1) from if_neg (fun h => hq h.1))
    clear hq
    go_wp2_with (first | (refine arr_store rfl 39 _ _ rfl (w.heap.size + 1) .i16 (zer 64) rfl rfl 39 (zer 64) HZ_1.out 64 (by kernel_rfl) (zer_len 64) (zer_len 64) ?_))
    refine bodyPost_ret (results_ct rfl _ _ (w.heap.size + 1) 39 (nums .i16 (zer 64)).toArray (0, 0) _ rfl HZ_1.out.row Try.underlying39 rfl (by rw [show (Array.size (nums .i16 (zer 64)).toArray) = 64 by simp [nums, zer]]; kernel_rfl)) rfl ?_
    exact ⟨by rw [HE.out]; rfl, below_row HB_1.out (by omega) _⟩
end Go.Proofs.Yticnajjbmdfidaa.Q
