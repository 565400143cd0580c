-- The row of StepsFor.
import Derived.Test.YticnajjbmdfidaaQx3
import Derived.Test.YticnajjbmdfidaaQx4
import Derived.Test.YticnajjbmdfidaaQx6
import Derived.Test.YticnajjbmdfidaaQx8
import Derived.Test.YticnajjbmdfidaaQx10
import Derived.Test.YticnajjbmdfidaaQx11
import Derived.Test.YticnajjbmdfidaaQx14
import Derived.Test.YticnajjbmdfidaaArrSf
import Derived.Test.YticnajjbmdfidaaArrPLM
namespace Go.Proofs.Yticnajjbmdfidaa.Q
open Go.RowKit Go.Proofs.Yticnajjbmdfidaa.PL Go.Proofs.YticnajjbmdfidaaW.PrintWords Go.Proofs.YticnajjbmdfidaaW.PrintLast Go.Proofs.YticnajjbmdfidaaW.PrintMore
attribute [local go_sem] max2_int min2_int max_two min_two max_three min_three max_four min_four
set_option linter.unusedVariables false
set_option linter.unusedSimpArgs false
set_option maxHeartbeats 8000000 in
set_option maxRecDepth 100000 in
theorem laws_FnExactStepsFor.arr (w : World) (xs : List Int) (hl : xs.length = 64) (h16 : ∀ x ∈ xs, -32768 ≤ x ∧ x ≤ 32767) (A1 : Option Addr) (c1 : Nat) (l : List S93) (hr1 : Kd.C k93 w A1 l.length l) (hc1 : l.length ≤ c1) (hw1 : ∀ x ∈ l, -32768 ≤ x.f0 ∧ x.f0 ≤ 32767 ∧ -32768 ≤ x.f1 ∧ x.f1 ≤ 32767) (yy1 : l.length * 4 ≤ 140737488351232)
    (ts : List Int) (hm : ts.length = 64) (k16 : ∀ x ∈ ts, -32768 ≤ x ∧ x ≤ 32767) :
    Calls Try.prog 7 #[.agg (nums .i16 xs).toArray, .slice A1 l.length c1, .agg (nums .i16 ts).toArray] w fun e w' => e = .returned (.bool true) ∧ Below w.heap.size w w' := by
  have HX := Aside0.mk hl
  have HM := Aside0.mk hm
  have H16 := Aside0.mk h16
  have K16 := Aside0.mk k16
  have HC1 := Aside0.mk hc1
  have HR1 := Aside0.mk hr1
  have HSZ1 := Aside0.mk (L_szCurve l 1048576 (by omega) yy1)
  have H1 := Aside0.mk (L_map16 l hw1)
  have HA := Aside0.mk (arr_new2a w 36 .i16 xs (.cells (nums .i16 ts).toArray 36))
  have HT := Aside0.mk (arr_new2b w (.cells (nums .i16 xs).toArray 36) 36 .i16 ts)
  have HB := Aside0.mk (arr_below2 w (.cells (nums .i16 xs).toArray 36) (.cells (nums .i16 ts).toArray 36))
  have SZ0 := Aside0.mk (show w.heap.size + 2 ≤ ((w.alloc (.cells (nums .i16 xs).toArray 36)).alloc (.cells (nums .i16 ts).toArray 36)).heap.size by simp)
  clear hl hm h16 k16 hr1 hc1 hw1
  by_cases hbig : (1048576 : Int) < (l.length : Int)
  · have HS := Aside0.mk (show laws_szCurve.f l 1048576 = some (-1) by rw [HSZ1.out, if_pos hbig])
    clear hbig yy1
    go_enter Try.func7, Try.ntmps7
    go_wp2_with fail
    refine (laws_szCurve.calls _ _ l 1048576 (-1) _ (Kd.C_below HR1.out HB.out) HC1.out HS.out).mono ?_
    rintro e w1 ⟨rfl, hb⟩
    have HB1 := Aside0.mk (below_step HB.out hb.below)
    clear hb
    go_wp2_with fail
    go_ret
    exact ⟨rfl, HB1.out⟩
  · obtain ⟨s1, hs1⟩ : ∃ s1, s1 = (1048576 : Int) - (l.length : Int) := ⟨_, rfl⟩
    have HS := Aside0.mk (show laws_szCurve.f l 1048576 = some s1 by rw [HSZ1.out, if_neg hbig, hs1])
    have hlt : decide (s1 < 0) = false := decide_eq_false (by omega)
    have HT1 := Aside0.mk (L_toCurve l (by omega) (k := l.length + 1) (by omega))
    obtain ⟨m, hm⟩ : ∃ m, m = l.map D_point := ⟨_, rfl⟩
    rw [← hm] at HT1 H1
    have hml : m.length = l.length := by rw [hm]; simp
    have HN1 := Aside0.mk (show m.length ≤ 140737488351232 by omega)
    have HE1 := Aside0.mk (L_eqCurve m (by omega) (k := m.length + 1) (by omega))
    obtain ⟨m2, hmk⟩ := L_markCurveF m (by omega) 1 (by omega) (Nat.lt_succ_self m.length)
    have HMK := Aside0.mk hmk
    have hk0 : decide ((1 : Int) + 2 * (m.length : Int) < 0) = false := decide_eq_false (by omega)
    obtain ⟨Z, hZ⟩ : ∃ Z, Z = D_stepsFor xs m ts := ⟨_, rfl⟩
    have hzl : Z.1.length ≤ 37 := by rw [hZ]; exact L_stepsForLen xs m ts
    have HZ := Aside0.mk hZ
    have HE2 := Aside0.mk (L_eqSteps Z.1 (by omega) (k := Z.1.length + 1) (by omega))
    obtain ⟨g2, hgl, hg2, hh2⟩ := L_markHeldSt2 Z.1 (by omega) (Nat.lt_succ_self Z.1.length)
    have hh3 := hh2 (Z.1.length + 1) (by omega)
    obtain ⟨mm, hmm⟩ : ∃ mm, mm = 1 + 2 * (Z.1.length : Int) := ⟨_, rfl⟩
    have hq0 : decide (mm < 0) = false := decide_eq_false (by omega)
    have hqn : (mm != mm) = false := by simp
    rw [← hmm] at hg2 hh3
    have HHG := Aside0.mk hh3
    obtain ⟨G, hG⟩ : ∃ G, G = Z.1 := ⟨_, rfl⟩
    have HGZ := Aside0.mk hG
    have HGL := Aside0.mk (show G.length = g2.length by rw [hG, hgl])
    rw [← hG] at hg2
    have HMG := Aside0.mk hg2
    clear hbig yy1 hs1 hm hml hZ HSZ1 hmk hg2 hh2 hh3 hgl hG hzl hmm
    obtain ⟨W0, hW0⟩ : ∃ W0, W0 = (w.alloc (.cells (nums .i16 xs).toArray 36)).alloc (.cells (nums .i16 ts).toArray 36) := ⟨_, rfl⟩
    rw [← hW0] at HA HT HB SZ0
    have HW0 := Aside0.mk hW0
    clear hW0
    go_enter Try.func7, Try.ntmps7
    go_wp2_with fail
    rw [← HW0.out]
    refine (laws_szCurve.calls _ _ l 1048576 s1 _ (Kd.C_below HR1.out HB.out) HC1.out HS.out).mono ?_
    rintro e w1 ⟨rfl, hb⟩
    have SZ1 := Aside0.mk (show W0.heap.size ≤ w1.heap.size from (by have h_ := Below.size hb.below; exact h_))
    have HA_1 := Aside0.mk (ArrAt.below HA.out hb.below)
    have HT_1 := Aside0.mk (ArrAt.below HT.out hb.below)
    have HB_1 := Aside0.mk (below_step HB.out hb.below)
    clear hb HA HT HB
    go_wp2_with fail
    refine wp_region_held_drew (S := (fun w' => w'.rangeAt w.heap.size 0 (nums .i16 xs) ∧ w'.rangeAt (w.heap.size + 1) 0 (nums .i16 ts))) (by kernel_rfl) ⟨(World.rangeAt_drew _ _ _ _).2 (ArrAt.range HA_1.out), (World.rangeAt_drew _ _ _ _).2 (ArrAt.range HT_1.out)⟩ (fun hHeld => ?_)
    refine wpAnyH_take (i := 0) (v := .agg (nums .i16 xs).toArray) rfl (by kernel_rfl) (by kernel_rfl) (by kernel_rfl) (fun _ _ _ h => h) (yieldsIf_load_mid (by rfl) _ _ rfl _ _ rfl _ _ (fun w' h => h.1) Try.underlying36 rfl (by rw [nums_length, HX.out]; kernel_rfl)) (by assumption) ?_
    try simp only [List.getElem_toArray, List.getElem_cons_succ, List.getElem_cons_zero, Act.put, List.setIfInBounds_toArray, List.set_cons_zero, List.set_cons_succ]
    refine wpAnyH_take (i := 4) (v := .agg (nums .i16 ts).toArray) rfl (by kernel_rfl) (by kernel_rfl) (by kernel_rfl) (fun _ _ _ h => h) (yieldsIf_load_mid (by rfl) _ _ rfl _ _ rfl _ _ (fun w' h => h.2) Try.underlying36 rfl (by rw [nums_length, HM.out]; kernel_rfl)) (by assumption) ?_
    try simp only [List.getElem_toArray, List.getElem_cons_succ, List.getElem_cons_zero, Act.put, List.setIfInBounds_toArray, List.set_cons_zero, List.set_cons_succ]
    refine wpAnyH_take (i := 2) (v := ?_) rfl (by kernel_rfl) (by kernel_rfl) (by kernel_rfl) (fun _ _ _ h => h) (Or.inl ⟨by rfl, ?_⟩) (by assumption) ?_
    rotate_left
    · intro w hSw
      go_simp
      with_reducible rfl
    try simp only [List.getElem_toArray, List.getElem_cons_succ, List.getElem_cons_zero, Act.put, List.setIfInBounds_toArray, List.set_cons_zero, List.set_cons_succ]
    refine wpAnyH_ready (rs := [1]) (by kernel_rfl) (by simp) ?_
    refine AllReadyH.cons rfl (fun K hK => ?_) AllReadyH.nil
    clear hHeld
    go_simp
    refine (laws_toNegative.arr xs HX.out _).mono ?_
    rintro e w2 ⟨rfl, hb⟩
    have SZ2 := Aside0.mk (show w1.heap.size ≤ w2.heap.size from (by have h_ := Below.size hb; exact h_))
    have HA_2 := Aside0.mk (ArrAt.below (W := w1.drew) HA_1.out hb)
    have HT_2 := Aside0.mk (ArrAt.below (W := w1.drew) HT_1.out hb)
    have HB_2 := Aside0.mk (below_step (below_drew1 HB_1.out) hb)
    clear hb HA_1 HT_1 HB_1
    go_wp2_with fail
    refine hK.out _ _ (⟨ArrAt.range HA_2.out, ArrAt.range HT_2.out⟩) (fun hHeld => ?_)
    clear hK K
    try simp only [List.getElem_toArray, List.getElem_cons_succ, List.getElem_cons_zero, Act.put, List.setIfInBounds_toArray, List.set_cons_zero, List.set_cons_succ]
    refine wpAnyH_ready (rs := [3]) (by kernel_rfl) (by simp) ?_
    refine AllReadyH.cons rfl (fun K hK => ?_) AllReadyH.nil
    clear hHeld
    go_simp
    refine (laws_toCurve.calls _ _ _ l m _ (Kd.C_below HR1.out HB_2.out) HC1.out HT1.out).mono ?_
    rintro e w3 ⟨v_VW1, rfl, ho, hb⟩
    have VW1_0 := Aside0.mk (Kd.R_reok (ok := fun k_ => w2.heap.size ≤ k_ ∧ k_ < w3.heap.size) rfl (Kd.R_lower ho (below_size HB_2.out)) (fun k_ e_ => ⟨Kd.R_base ho k_ e_, Kd.R_lt ho k_ e_⟩))
    clear ho
    have SZ3 := Aside0.mk (show w2.heap.size ≤ w3.heap.size from (by have h_ := Below.size hb; exact h_))
    have HA_3 := Aside0.mk (ArrAt.below HA_2.out hb)
    have HT_3 := Aside0.mk (ArrAt.below HT_2.out hb)
    have HB_3 := Aside0.mk (below_step HB_2.out hb)
    clear hb HA_2 HT_2 HB_2
    go_wp2_with fail
    refine hK.out _ _ (⟨ArrAt.range HA_3.out, ArrAt.range HT_3.out⟩) (fun hHeld => ?_)
    clear hK K
    try simp only [List.getElem_toArray, List.getElem_cons_succ, List.getElem_cons_zero, Act.put, List.setIfInBounds_toArray, List.set_cons_zero, List.set_cons_succ]
    obtain ⟨A_VW1, c_VW1, e_VW1⟩ := Kd.R_slice VW1_0.out
    subst e_VW1
    refine wpAnyH_ready (rs := [5]) (by kernel_rfl) (by simp) ?_
    refine AllReadyH.cons rfl (fun K hK => ?_) AllReadyH.nil
    clear hHeld
    go_simp
    refine (laws_toPrint.arr ts HM.out _).mono ?_
    rintro e w4 ⟨rfl, hb⟩
    have SZ4 := Aside0.mk (show w3.heap.size ≤ w4.heap.size from (by have h_ := Below.size hb; exact h_))
    have HA_4 := Aside0.mk (ArrAt.below HA_3.out hb)
    have HT_4 := Aside0.mk (ArrAt.below HT_3.out hb)
    have HB_4 := Aside0.mk (below_step HB_3.out hb)
    have VW1_4 := Aside0.mk (Kd.R_below VW1_0.out hb)
    clear hb HA_3 HT_3 HB_3 VW1_0
    go_wp2_with fail
    refine hK.out _ _ (⟨ArrAt.range HA_4.out, ArrAt.range HT_4.out⟩) (fun hHeld => ?_)
    clear hK K
    try simp only [List.getElem_toArray, List.getElem_cons_succ, List.getElem_cons_zero, Act.put, List.setIfInBounds_toArray, List.set_cons_zero, List.set_cons_succ]
    refine wpAnyH_ready (rs := [6]) (by kernel_rfl) (by simp) ?_
    refine AllReadyH.cons rfl (fun K hK => ?_) AllReadyH.nil
    clear hHeld
    go_simp
    refine (spec_StepsFor.arr xs HX.out H16.out _ _ m ts HM.out K16.out _ (Kd.R_reads' VW1_4.out).2.2 (Kd.R_reads' VW1_4.out).2.1 H1.out HN1.out).mono ?_
    rintro e w5 ⟨v_W1, rfl, ho, hb⟩
    rw [← HZ.out] at ho ⊢
    have W1_0 := Aside0.mk (Kd.R_reok (ok := fun k_ => w4.heap.size ≤ k_ ∧ k_ < w5.heap.size) rfl (Kd.R_lower ho (below_size HB_4.out)) (fun k_ e_ => ⟨Kd.R_base ho k_ e_, Kd.R_lt ho k_ e_⟩))
    clear ho
    have SZ5 := Aside0.mk (show w4.heap.size ≤ w5.heap.size from (by have h_ := Below.size hb; exact h_))
    have HA_5 := Aside0.mk (ArrAt.below HA_4.out hb)
    have HT_5 := Aside0.mk (ArrAt.below HT_4.out hb)
    have HB_5 := Aside0.mk (below_step HB_4.out hb)
    have VW1_5 := Aside0.mk (Kd.R_below VW1_4.out hb)
    clear hb HA_4 HT_4 HB_4 VW1_4
    go_wp2_with fail
    refine hK.out _ _ (⟨ArrAt.range HA_5.out, ArrAt.range HT_5.out⟩) (fun hHeld => ?_)
    clear hK K
    try simp only [List.getElem_toArray, List.getElem_cons_succ, List.getElem_cons_zero, Act.put, List.setIfInBounds_toArray, List.set_cons_zero, List.set_cons_succ]
    obtain ⟨A_W1, c_W1, e_W1⟩ := Kd.R_slice W1_0.out
    subst e_W1
    refine wpAnyH_take (i := 7) (v := ?_) rfl (by kernel_rfl) (by kernel_rfl) (by kernel_rfl) (fun _ _ _ h => h) (Or.inl ⟨by rfl, ?_⟩) (by assumption) ?_
    rotate_left
    · intro w hSw
      go_simp
      with_reducible rfl
    try simp only [List.getElem_toArray, List.getElem_cons_succ, List.getElem_cons_zero, Act.put, List.setIfInBounds_toArray, List.set_cons_zero, List.set_cons_succ]
    refine wpAnyH_take (i := 8) (v := ?_) rfl (by kernel_rfl) (by kernel_rfl) (by kernel_rfl) (fun _ _ _ h => h) (Or.inl ⟨by rfl, ?_⟩) (by assumption) ?_
    rotate_left
    · intro w hSw
      go_simp
      with_reducible rfl
    try simp only [List.getElem_toArray, List.getElem_cons_succ, List.getElem_cons_zero, Act.put, List.setIfInBounds_toArray, List.set_cons_zero, List.set_cons_succ]
    refine wpAnyH_take (i := 9) (v := ?_) rfl (by kernel_rfl) (by kernel_rfl) (by kernel_rfl) (fun _ _ _ h => h) (Or.inl ⟨by rfl, ?_⟩) (by assumption) ?_
    rotate_left
    · intro w hSw
      go_simp
      with_reducible rfl
    try simp only [List.getElem_toArray, List.getElem_cons_succ, List.getElem_cons_zero, Act.put, List.setIfInBounds_toArray, List.set_cons_zero, List.set_cons_succ]
    refine wpAnyH_take (i := 10) (v := ?_) rfl (by kernel_rfl) (by kernel_rfl) (by kernel_rfl) (fun _ _ _ h => h) (Or.inl ⟨by rfl, ?_⟩) (by assumption) ?_
    rotate_left
    · intro w hSw
      go_simp
      with_reducible rfl
    try simp only [List.getElem_toArray, List.getElem_cons_succ, List.getElem_cons_zero, Act.put, List.setIfInBounds_toArray, List.set_cons_zero, List.set_cons_succ]
    refine wpAnyH_take (i := 11) (v := ?_) rfl (by kernel_rfl) (by kernel_rfl) (by kernel_rfl) (fun _ _ _ h => h) (Or.inl ⟨by rfl, ?_⟩) (by assumption) ?_
    rotate_left
    · intro w hSw
      go_simp
      with_reducible rfl
    try simp only [List.getElem_toArray, List.getElem_cons_succ, List.getElem_cons_zero, Act.put, List.setIfInBounds_toArray, List.set_cons_zero, List.set_cons_succ]
    refine wpAnyH_done (by kernel_rfl) ?_ _
    clear hHeld
    go_wp2_with fail
    refine (laws_toCurve.calls _ _ _ l m _ (Kd.C_below HR1.out HB_5.out) HC1.out HT1.out).mono ?_
    rintro e w6 ⟨v_X1, rfl, ho, hb⟩
    have X1_0 := Aside0.mk (Kd.R_reok (ok := fun k_ => w5.heap.size ≤ k_ ∧ k_ < w6.heap.size) rfl (Kd.R_lower ho (below_size HB_5.out)) (fun k_ e_ => ⟨Kd.R_base ho k_ e_, Kd.R_lt ho k_ e_⟩))
    clear ho
    have SZ6 := Aside0.mk (show w5.heap.size ≤ w6.heap.size from (by have h_ := Below.size hb; exact h_))
    have HA_6 := Aside0.mk (ArrAt.below HA_5.out hb)
    have HT_6 := Aside0.mk (ArrAt.below HT_5.out hb)
    have HB_6 := Aside0.mk (below_step HB_5.out hb)
    have W1_6 := Aside0.mk (Kd.R_below W1_0.out hb)
    clear hb HA_5 HT_5 HB_5 W1_0
    obtain ⟨A_X1, c_X1, e_X1⟩ := Kd.R_slice X1_0.out
    subst e_X1
    go_wp2_with fail
    refine wp_region_held_drew (S := (fun w' => w'.rangeAt w.heap.size 0 (nums .i16 xs) ∧ w'.rangeAt (w.heap.size + 1) 0 (nums .i16 ts))) (by kernel_rfl) ⟨(World.rangeAt_drew _ _ _ _).2 (ArrAt.range HA_6.out), (World.rangeAt_drew _ _ _ _).2 (ArrAt.range HT_6.out)⟩ (fun hHeld => ?_)
    refine wpAnyH_take (i := 0) (v := .agg (nums .i16 xs).toArray) rfl (by kernel_rfl) (by kernel_rfl) (by kernel_rfl) (fun _ _ _ h => h) (yieldsIf_load_mid (by rfl) _ _ rfl _ _ rfl _ _ (fun w' h => h.1) Try.underlying36 rfl (by rw [nums_length, HX.out]; kernel_rfl)) (by assumption) ?_
    try simp only [List.getElem_toArray, List.getElem_cons_succ, List.getElem_cons_zero, Act.put, List.setIfInBounds_toArray, List.set_cons_zero, List.set_cons_succ]
    refine wpAnyH_take (i := 3) (v := .agg (nums .i16 ts).toArray) rfl (by kernel_rfl) (by kernel_rfl) (by kernel_rfl) (fun _ _ _ h => h) (yieldsIf_load_mid (by rfl) _ _ rfl _ _ rfl _ _ (fun w' h => h.2) Try.underlying36 rfl (by rw [nums_length, HM.out]; kernel_rfl)) (by assumption) ?_
    try simp only [List.getElem_toArray, List.getElem_cons_succ, List.getElem_cons_zero, Act.put, List.setIfInBounds_toArray, List.set_cons_zero, List.set_cons_succ]
    refine wpAnyH_take (i := 2) (v := ?_) rfl (by kernel_rfl) (by kernel_rfl) (by kernel_rfl) (fun _ _ _ h => h) (Or.inl ⟨by rfl, ?_⟩) (by assumption) ?_
    rotate_left
    · intro w hSw
      go_simp
      with_reducible rfl
    try simp only [List.getElem_toArray, List.getElem_cons_succ, List.getElem_cons_zero, Act.put, List.setIfInBounds_toArray, List.set_cons_zero, List.set_cons_succ]
    refine wpAnyH_ready (rs := [1]) (by kernel_rfl) (by simp) ?_
    refine AllReadyH.cons rfl (fun K hK => ?_) AllReadyH.nil
    clear hHeld
    go_simp
    refine (laws_toNegative.arr xs HX.out _).mono ?_
    rintro e w7 ⟨rfl, hb⟩
    have SZ7 := Aside0.mk (show w6.heap.size ≤ w7.heap.size from (by have h_ := Below.size hb; exact h_))
    have HA_7 := Aside0.mk (ArrAt.below (W := w6.drew) HA_6.out hb)
    have HT_7 := Aside0.mk (ArrAt.below (W := w6.drew) HT_6.out hb)
    have HB_7 := Aside0.mk (below_step (below_drew1 HB_6.out) hb)
    have W1_7 := Aside0.mk (Kd.R_below (Kd.R_drew W1_6.out) hb)
    have X1_7 := Aside0.mk (Kd.R_below (Kd.R_drew X1_0.out) hb)
    clear hb HA_6 HT_6 HB_6 W1_6 X1_0
    go_wp2_with fail
    refine hK.out _ _ (⟨ArrAt.range HA_7.out, ArrAt.range HT_7.out⟩) (fun hHeld => ?_)
    clear hK K
    try simp only [List.getElem_toArray, List.getElem_cons_succ, List.getElem_cons_zero, Act.put, List.setIfInBounds_toArray, List.set_cons_zero, List.set_cons_succ]
    refine wpAnyH_ready (rs := [4]) (by kernel_rfl) (by simp) ?_
    refine AllReadyH.cons rfl (fun K hK => ?_) AllReadyH.nil
    clear hHeld
    go_simp
    refine (laws_toPrint.arr ts HM.out _).mono ?_
    rintro e w8 ⟨rfl, hb⟩
    have SZ8 := Aside0.mk (show w7.heap.size ≤ w8.heap.size from (by have h_ := Below.size hb; exact h_))
    have HA_8 := Aside0.mk (ArrAt.below HA_7.out hb)
    have HT_8 := Aside0.mk (ArrAt.below HT_7.out hb)
    have HB_8 := Aside0.mk (below_step HB_7.out hb)
    have W1_8 := Aside0.mk (Kd.R_below W1_7.out hb)
    have X1_8 := Aside0.mk (Kd.R_below X1_7.out hb)
    clear hb HA_7 HT_7 HB_7 W1_7 X1_7
    go_wp2_with fail
    refine hK.out _ _ (⟨ArrAt.range HA_8.out, ArrAt.range HT_8.out⟩) (fun hHeld => ?_)
    clear hK K
    try simp only [List.getElem_toArray, List.getElem_cons_succ, List.getElem_cons_zero, Act.put, List.setIfInBounds_toArray, List.set_cons_zero, List.set_cons_succ]
    refine wpAnyH_ready (rs := [5]) (by kernel_rfl) (by simp) ?_
    refine AllReadyH.cons rfl (fun K hK => ?_) AllReadyH.nil
    clear hHeld
    go_simp
    refine (impl_StepsFor.arr xs HX.out H16.out _ _ m ts HM.out K16.out _ (Kd.R_reads' X1_8.out).2.2 (Kd.R_reads' X1_8.out).2.1 H1.out HN1.out).mono ?_
    rintro e w9 ⟨v_G1, rfl, ho, hb⟩
    rw [← HZ.out] at ho ⊢
    rw [← HGZ.out] at ho
    have G1_0 := Aside0.mk (Kd.R_reok (ok := fun k_ => w8.heap.size ≤ k_ ∧ k_ < w9.heap.size) rfl (Kd.R_lower ho (below_size HB_8.out)) (fun k_ e_ => ⟨Kd.R_base ho k_ e_, Kd.R_lt ho k_ e_⟩))
    clear ho
    have SZ9 := Aside0.mk (show w8.heap.size ≤ w9.heap.size from (by have h_ := Below.size hb; exact h_))
    have HA_9 := Aside0.mk (ArrAt.below HA_8.out hb)
    have HT_9 := Aside0.mk (ArrAt.below HT_8.out hb)
    have HB_9 := Aside0.mk (below_step HB_8.out hb)
    have W1_9 := Aside0.mk (Kd.R_below W1_8.out hb)
    have X1_9 := Aside0.mk (Kd.R_below X1_8.out hb)
    clear hb HA_8 HT_8 HB_8 W1_8 X1_8
    go_wp2_with fail
    refine hK.out _ _ (⟨ArrAt.range HA_9.out, ArrAt.range HT_9.out⟩) (fun hHeld => ?_)
    clear hK K
    try simp only [List.getElem_toArray, List.getElem_cons_succ, List.getElem_cons_zero, Act.put, List.setIfInBounds_toArray, List.set_cons_zero, List.set_cons_succ]
    obtain ⟨A_G1, c_G1, e_G1⟩ := Kd.R_slice G1_0.out
    subst e_G1
    refine wpAnyH_take (i := 6) (v := ?_) rfl (by kernel_rfl) (by kernel_rfl) (by kernel_rfl) (fun _ _ _ h => h) (Or.inl ⟨by rfl, ?_⟩) (by assumption) ?_
    rotate_left
    · intro w hSw
      go_simp
      with_reducible rfl
    try simp only [List.getElem_toArray, List.getElem_cons_succ, List.getElem_cons_zero, Act.put, List.setIfInBounds_toArray, List.set_cons_zero, List.set_cons_succ]
    refine wpAnyH_take (i := 7) (v := ?_) rfl (by kernel_rfl) (by kernel_rfl) (by kernel_rfl) (fun _ _ _ h => h) (Or.inl ⟨by rfl, ?_⟩) (by assumption) ?_
    rotate_left
    · intro w hSw
      go_simp
      with_reducible rfl
    try simp only [List.getElem_toArray, List.getElem_cons_succ, List.getElem_cons_zero, Act.put, List.setIfInBounds_toArray, List.set_cons_zero, List.set_cons_succ]
    refine wpAnyH_take (i := 8) (v := ?_) rfl (by kernel_rfl) (by kernel_rfl) (by kernel_rfl) (fun _ _ _ h => h) (Or.inl ⟨by rfl, ?_⟩) (by assumption) ?_
    rotate_left
    · intro w hSw
      go_simp
      with_reducible rfl
    try simp only [List.getElem_toArray, List.getElem_cons_succ, List.getElem_cons_zero, Act.put, List.setIfInBounds_toArray, List.set_cons_zero, List.set_cons_succ]
    refine wpAnyH_take (i := 9) (v := ?_) rfl (by kernel_rfl) (by kernel_rfl) (by kernel_rfl) (fun _ _ _ h => h) (Or.inl ⟨by rfl, ?_⟩) (by assumption) ?_
    rotate_left
    · intro w hSw
      go_simp
      with_reducible rfl
    try simp only [List.getElem_toArray, List.getElem_cons_succ, List.getElem_cons_zero, Act.put, List.setIfInBounds_toArray, List.set_cons_zero, List.set_cons_succ]
    refine wpAnyH_take (i := 10) (v := ?_) rfl (by kernel_rfl) (by kernel_rfl) (by kernel_rfl) (fun _ _ _ h => h) (Or.inl ⟨by rfl, ?_⟩) (by assumption) ?_
    rotate_left
    · intro w hSw
      go_simp
      with_reducible rfl
    try simp only [List.getElem_toArray, List.getElem_cons_succ, List.getElem_cons_zero, Act.put, List.setIfInBounds_toArray, List.set_cons_zero, List.set_cons_succ]
    refine wpAnyH_done (by kernel_rfl) ?_ _
    clear hHeld
    go_wp2_with fail
    refine (laws_eqStepS.calls _ _ _ G _ _ Z.1 true _ (Kd.R_reads' G1_0.out).2.2 (Kd.R_reads' G1_0.out).2.1 (Kd.R_reads' W1_9.out).2.2 (Kd.R_reads' W1_9.out).2.1 (by rw [HGZ.out]; exact HE2.out)).mono ?_
    rintro e w10 ⟨rfl, hb⟩
    have SZ10 := Aside0.mk (show w9.heap.size ≤ w10.heap.size from (by have h_ := Below.size hb; exact h_))
    have HA_10 := Aside0.mk (ArrAt.below HA_9.out hb)
    have HT_10 := Aside0.mk (ArrAt.below HT_9.out hb)
    have HB_10 := Aside0.mk (below_step HB_9.out hb)
    have W1_10 := Aside0.mk (Kd.R_below W1_9.out hb)
    have X1_10 := Aside0.mk (Kd.R_below X1_9.out hb)
    have G1_10 := Aside0.mk (Kd.R_below G1_0.out hb)
    clear hb HA_9 HT_9 HB_9 W1_9 X1_9 G1_0
    have hne : (Z.2 != Z.2) = false := by simp
    go_wp2_with fail
    refine (laws_toCurve.calls _ _ _ l m _ (Kd.C_below HR1.out HB_10.out) HC1.out HT1.out).mono ?_
    rintro e w11 ⟨v_Y1, rfl, ho, hb⟩
    have Y1_0 := Aside0.mk (Kd.R_reok (ok := fun k_ => w10.heap.size ≤ k_ ∧ k_ < w11.heap.size) rfl (Kd.R_lower ho (below_size HB_10.out)) (fun k_ e_ => ⟨Kd.R_base ho k_ e_, Kd.R_lt ho k_ e_⟩))
    clear ho
    have SZ11 := Aside0.mk (show w10.heap.size ≤ w11.heap.size from (by have h_ := Below.size hb; exact h_))
    have HA_11 := Aside0.mk (ArrAt.below HA_10.out hb)
    have HT_11 := Aside0.mk (ArrAt.below HT_10.out hb)
    have HB_11 := Aside0.mk (below_step HB_10.out hb)
    have W1_11 := Aside0.mk (Kd.R_below W1_10.out hb)
    have X1_11 := Aside0.mk (Kd.R_below X1_10.out hb)
    have G1_11 := Aside0.mk (Kd.R_below G1_10.out hb)
    clear hb HA_10 HT_10 HB_10 W1_10 X1_10 G1_10
    obtain ⟨A_Y1, c_Y1, e_Y1⟩ := Kd.R_slice Y1_0.out
    subst e_Y1
    go_wp2_with fail
    refine (laws_eqCurve.calls _ _ _ m _ _ m true _ (Kd.R_reads' X1_11.out).2.2 (Kd.R_reads' X1_11.out).2.1 (Kd.R_reads' Y1_0.out).2.2 (Kd.R_reads' Y1_0.out).2.1 HE1.out).mono ?_
    rintro e w12 ⟨rfl, hb⟩
    have SZ12 := Aside0.mk (show w11.heap.size ≤ w12.heap.size from (by have h_ := Below.size hb; exact h_))
    have HA_12 := Aside0.mk (ArrAt.below HA_11.out hb)
    have HT_12 := Aside0.mk (ArrAt.below HT_11.out hb)
    have HB_12 := Aside0.mk (below_step HB_11.out hb)
    have W1_12 := Aside0.mk (Kd.R_below W1_11.out hb)
    have X1_12 := Aside0.mk (Kd.R_below X1_11.out hb)
    have G1_12 := Aside0.mk (Kd.R_below G1_11.out hb)
    have Y1_12 := Aside0.mk (Kd.R_below Y1_0.out hb)
    clear hb HA_11 HT_11 HB_11 W1_11 X1_11 G1_11 Y1_0
    go_wp2_with fail
    refine (laws_markCurve.calls _ (fun k_ => w5.heap.size ≤ k_ ∧ k_ < w6.heap.size) (.slice A_X1 m.length c_X1) m 1 _ m2 w _ HB_12.out X1_12.out HMK.out).mono ?_
    rintro e w13 ⟨rfl, hy0, hb, hkp⟩
    have SZ13 := Aside0.mk (show w12.heap.size ≤ w13.heap.size from hkp.1)
    have QSZ0 := SZ0.out
    have QSZ1 := SZ1.out
    have QSZ2 := SZ2.out
    have QSZ3 := SZ3.out
    have QSZ4 := SZ4.out
    have QSZ5 := SZ5.out
    have QSZ6 := SZ6.out
    have QSZ7 := SZ7.out
    have QSZ8 := SZ8.out
    have QSZ9 := SZ9.out
    have QSZ10 := SZ10.out
    have QSZ11 := SZ11.out
    have QSZ12 := SZ12.out
    have QSZ13 := SZ13.out
    have HA_13 := Aside0.mk (show ArrAt _ w.heap.size 36 .i16 xs from blk_kept HA_12.out hkp (by omega))
    have HT_13 := Aside0.mk (show ArrAt _ (w.heap.size + 1) 36 .i16 ts from blk_kept HT_12.out hkp (by omega))
    have HB_13 := Aside0.mk (hb)
    have W1_13 := Aside0.mk (Kd.R_kept W1_12.out hkp (fun k_ hk_ hs_ => by omega))
    have X1_13 := Aside0.mk (Kd.R_reok (ok := fun k_ => w5.heap.size ≤ k_ ∧ k_ < w6.heap.size) rfl hy0 (fun k_ e_ => X1_12.out.1 k_ e_))
    have G1_13 := Aside0.mk (Kd.R_kept G1_12.out hkp (fun k_ hk_ hs_ => by omega))
    clear hb hkp hy0 QSZ0 QSZ1 QSZ2 QSZ3 QSZ4 QSZ5 QSZ6 QSZ7 QSZ8 QSZ9 QSZ10 QSZ11 QSZ12 QSZ13 HA_12 HT_12 HB_12 W1_12 X1_12 G1_12
    go_wp2_with fail
    refine (laws_eqStepS.calls _ _ _ G _ _ Z.1 true _ (Kd.R_reads' G1_13.out).2.2 (Kd.R_reads' G1_13.out).2.1 (Kd.R_reads' W1_13.out).2.2 (Kd.R_reads' W1_13.out).2.1 (by rw [HGZ.out]; exact HE2.out)).mono ?_
    rintro e w14 ⟨rfl, hb⟩
    have SZ14 := Aside0.mk (show w13.heap.size ≤ w14.heap.size from (by have h_ := Below.size hb; exact h_))
    have HA_14 := Aside0.mk (ArrAt.below HA_13.out hb)
    have HT_14 := Aside0.mk (ArrAt.below HT_13.out hb)
    have HB_14 := Aside0.mk (below_step HB_13.out hb)
    have W1_14 := Aside0.mk (Kd.R_below W1_13.out hb)
    have G1_14 := Aside0.mk (Kd.R_below G1_13.out hb)
    clear hb HA_13 HT_13 HB_13 W1_13 G1_13
    go_wp2_with fail
    refine (laws_markStepS.calls _ (fun k_ => w8.heap.size ≤ k_ ∧ k_ < w9.heap.size) (.slice A_G1 G.length c_G1) G 1 mm g2 w _ HB_14.out G1_14.out HMG.out).mono ?_
    rintro e w15 ⟨rfl, hy0, hb, hkp⟩
    have SZ15 := Aside0.mk (show w14.heap.size ≤ w15.heap.size from hkp.1)
    have QSZ0 := SZ0.out
    have QSZ1 := SZ1.out
    have QSZ2 := SZ2.out
    have QSZ3 := SZ3.out
    have QSZ4 := SZ4.out
    have QSZ5 := SZ5.out
    have QSZ6 := SZ6.out
    have QSZ7 := SZ7.out
    have QSZ8 := SZ8.out
    have QSZ9 := SZ9.out
    have QSZ10 := SZ10.out
    have QSZ11 := SZ11.out
    have QSZ12 := SZ12.out
    have QSZ13 := SZ13.out
    have QSZ14 := SZ14.out
    have QSZ15 := SZ15.out
    have HA_15 := Aside0.mk (show ArrAt _ w.heap.size 36 .i16 xs from blk_kept HA_14.out hkp (by omega))
    have HT_15 := Aside0.mk (show ArrAt _ (w.heap.size + 1) 36 .i16 ts from blk_kept HT_14.out hkp (by omega))
    have HB_15 := Aside0.mk (hb)
    have W1_15 := Aside0.mk (Kd.R_kept W1_14.out hkp (fun k_ hk_ hs_ => by omega))
    have G1_15 := Aside0.mk (Kd.R_reok (ok := fun k_ => w8.heap.size ≤ k_ ∧ k_ < w9.heap.size) rfl hy0 (fun k_ e_ => G1_14.out.1 k_ e_))
    clear hb hkp hy0 QSZ0 QSZ1 QSZ2 QSZ3 QSZ4 QSZ5 QSZ6 QSZ7 QSZ8 QSZ9 QSZ10 QSZ11 QSZ12 QSZ13 QSZ14 QSZ15 HA_14 HT_14 HB_14 W1_14 G1_14
    have hgl := HGL.out
    rw [hgl]
    clear hgl
    go_wp2_with fail
    refine (laws_heldStepS.calls _ _ _ g2 1 _ _ (Kd.R_reads' G1_15.out).2.2 (Nat.le_trans (Nat.le_of_eq HGL.out.symm) (Kd.R_reads' G1_15.out).2.1) HHG.out).mono ?_
    rintro e w16 ⟨rfl, hb⟩
    have SZ16 := Aside0.mk (show w15.heap.size ≤ w16.heap.size from (by have h_ := Below.size hb.below; exact h_))
    have HA_16 := Aside0.mk (ArrAt.below HA_15.out hb.below)
    have HT_16 := Aside0.mk (ArrAt.below HT_15.out hb.below)
    have HB_16 := Aside0.mk (below_step HB_15.out hb.below)
    have W1_16 := Aside0.mk (Kd.R_below W1_15.out hb.below)
    have G1_16 := Aside0.mk (Kd.R_below G1_15.out hb.below)
    clear hb HA_15 HT_15 HB_15 W1_15 G1_15
    go_wp2_with fail
    refine wp_region_held_drew (S := (fun w' => w'.rangeAt w.heap.size 0 (nums .i16 xs) ∧ w'.rangeAt (w.heap.size + 1) 0 (nums .i16 ts))) (by kernel_rfl) ⟨(World.rangeAt_drew _ _ _ _).2 (ArrAt.range HA_16.out), (World.rangeAt_drew _ _ _ _).2 (ArrAt.range HT_16.out)⟩ (fun hHeld => ?_)
    refine wpAnyH_take (i := 0) (v := .agg (nums .i16 xs).toArray) rfl (by kernel_rfl) (by kernel_rfl) (by kernel_rfl) (fun _ _ _ h => h) (yieldsIf_load_mid (by rfl) _ _ rfl _ _ rfl _ _ (fun w' h => h.1) Try.underlying36 rfl (by rw [nums_length, HX.out]; kernel_rfl)) (by assumption) ?_
    try simp only [List.getElem_toArray, List.getElem_cons_succ, List.getElem_cons_zero, Act.put, List.setIfInBounds_toArray, List.set_cons_zero, List.set_cons_succ]
    refine wpAnyH_take (i := 4) (v := .agg (nums .i16 ts).toArray) rfl (by kernel_rfl) (by kernel_rfl) (by kernel_rfl) (fun _ _ _ h => h) (yieldsIf_load_mid (by rfl) _ _ rfl _ _ rfl _ _ (fun w' h => h.2) Try.underlying36 rfl (by rw [nums_length, HM.out]; kernel_rfl)) (by assumption) ?_
    try simp only [List.getElem_toArray, List.getElem_cons_succ, List.getElem_cons_zero, Act.put, List.setIfInBounds_toArray, List.set_cons_zero, List.set_cons_succ]
    refine wpAnyH_take (i := 2) (v := ?_) rfl (by kernel_rfl) (by kernel_rfl) (by kernel_rfl) (fun _ _ _ h => h) (Or.inl ⟨by rfl, ?_⟩) (by assumption) ?_
    rotate_left
    · intro w hSw
      go_simp
      with_reducible rfl
    try simp only [List.getElem_toArray, List.getElem_cons_succ, List.getElem_cons_zero, Act.put, List.setIfInBounds_toArray, List.set_cons_zero, List.set_cons_succ]
    refine wpAnyH_ready (rs := [1]) (by kernel_rfl) (by simp) ?_
    refine AllReadyH.cons rfl (fun K hK => ?_) AllReadyH.nil
    clear hHeld
    go_simp
    refine (laws_toNegative.arr xs HX.out _).mono ?_
    rintro e w17 ⟨rfl, hb⟩
    have SZ17 := Aside0.mk (show w16.heap.size ≤ w17.heap.size from (by have h_ := Below.size hb; exact h_))
    have HA_17 := Aside0.mk (ArrAt.below (W := w16.drew) HA_16.out hb)
    have HT_17 := Aside0.mk (ArrAt.below (W := w16.drew) HT_16.out hb)
    have HB_17 := Aside0.mk (below_step (below_drew1 HB_16.out) hb)
    have W1_17 := Aside0.mk (Kd.R_below (Kd.R_drew W1_16.out) hb)
    have G1_17 := Aside0.mk (Kd.R_below (Kd.R_drew G1_16.out) hb)
    clear hb HA_16 HT_16 HB_16 W1_16 G1_16
    go_wp2_with fail
    refine hK.out _ _ (⟨ArrAt.range HA_17.out, ArrAt.range HT_17.out⟩) (fun hHeld => ?_)
    clear hK K
    try simp only [List.getElem_toArray, List.getElem_cons_succ, List.getElem_cons_zero, Act.put, List.setIfInBounds_toArray, List.set_cons_zero, List.set_cons_succ]
    refine wpAnyH_ready (rs := [3]) (by kernel_rfl) (by simp) ?_
    refine AllReadyH.cons rfl (fun K hK => ?_) AllReadyH.nil
    clear hHeld
    go_simp
    refine (laws_toCurve.calls _ _ _ l m _ (Kd.C_below HR1.out HB_17.out) HC1.out HT1.out).mono ?_
    rintro e w18 ⟨v_VH, rfl, ho, hb⟩
    have VH_0 := Aside0.mk (Kd.R_reok (ok := fun k_ => w17.heap.size ≤ k_ ∧ k_ < w18.heap.size) rfl (Kd.R_lower ho (below_size HB_17.out)) (fun k_ e_ => ⟨Kd.R_base ho k_ e_, Kd.R_lt ho k_ e_⟩))
    clear ho
    have SZ18 := Aside0.mk (show w17.heap.size ≤ w18.heap.size from (by have h_ := Below.size hb; exact h_))
    have HA_18 := Aside0.mk (ArrAt.below HA_17.out hb)
    have HT_18 := Aside0.mk (ArrAt.below HT_17.out hb)
    have HB_18 := Aside0.mk (below_step HB_17.out hb)
    have W1_18 := Aside0.mk (Kd.R_below W1_17.out hb)
    have G1_18 := Aside0.mk (Kd.R_below G1_17.out hb)
    clear hb HA_17 HT_17 HB_17 W1_17 G1_17
    go_wp2_with fail
    refine hK.out _ _ (⟨ArrAt.range HA_18.out, ArrAt.range HT_18.out⟩) (fun hHeld => ?_)
    clear hK K
    try simp only [List.getElem_toArray, List.getElem_cons_succ, List.getElem_cons_zero, Act.put, List.setIfInBounds_toArray, List.set_cons_zero, List.set_cons_succ]
    obtain ⟨A_VH, c_VH, e_VH⟩ := Kd.R_slice VH_0.out
    subst e_VH
    refine wpAnyH_ready (rs := [5]) (by kernel_rfl) (by simp) ?_
    refine AllReadyH.cons rfl (fun K hK => ?_) AllReadyH.nil
    clear hHeld
    go_simp
    refine (laws_toPrint.arr ts HM.out _).mono ?_
    rintro e w19 ⟨rfl, hb⟩
    have SZ19 := Aside0.mk (show w18.heap.size ≤ w19.heap.size from (by have h_ := Below.size hb; exact h_))
    have HA_19 := Aside0.mk (ArrAt.below HA_18.out hb)
    have HT_19 := Aside0.mk (ArrAt.below HT_18.out hb)
    have HB_19 := Aside0.mk (below_step HB_18.out hb)
    have W1_19 := Aside0.mk (Kd.R_below W1_18.out hb)
    have G1_19 := Aside0.mk (Kd.R_below G1_18.out hb)
    have VH_19 := Aside0.mk (Kd.R_below VH_0.out hb)
    clear hb HA_18 HT_18 HB_18 W1_18 G1_18 VH_0
    go_wp2_with fail
    refine hK.out _ _ (⟨ArrAt.range HA_19.out, ArrAt.range HT_19.out⟩) (fun hHeld => ?_)
    clear hK K
    try simp only [List.getElem_toArray, List.getElem_cons_succ, List.getElem_cons_zero, Act.put, List.setIfInBounds_toArray, List.set_cons_zero, List.set_cons_succ]
    refine wpAnyH_ready (rs := [6]) (by kernel_rfl) (by simp) ?_
    refine AllReadyH.cons rfl (fun K hK => ?_) AllReadyH.nil
    clear hHeld
    go_simp
    refine (impl_StepsFor.arr xs HX.out H16.out _ _ m ts HM.out K16.out _ (Kd.R_reads' VH_19.out).2.2 (Kd.R_reads' VH_19.out).2.1 H1.out HN1.out).mono ?_
    rintro e w20 ⟨v_H1, rfl, ho, hb⟩
    rw [← HZ.out] at ho ⊢
    have HH1_0 := Aside0.mk (Kd.R_reok (ok := fun k_ => w19.heap.size ≤ k_ ∧ k_ < w20.heap.size) rfl (Kd.R_lower ho (below_size HB_19.out)) (fun k_ e_ => ⟨Kd.R_base ho k_ e_, Kd.R_lt ho k_ e_⟩))
    clear ho
    have SZ20 := Aside0.mk (show w19.heap.size ≤ w20.heap.size from (by have h_ := Below.size hb; exact h_))
    have HA_20 := Aside0.mk (ArrAt.below HA_19.out hb)
    have HT_20 := Aside0.mk (ArrAt.below HT_19.out hb)
    have HB_20 := Aside0.mk (below_step HB_19.out hb)
    have W1_20 := Aside0.mk (Kd.R_below W1_19.out hb)
    have G1_20 := Aside0.mk (Kd.R_below G1_19.out hb)
    have VH_20 := Aside0.mk (Kd.R_below VH_19.out hb)
    clear hb HA_19 HT_19 HB_19 W1_19 G1_19 VH_19
    go_wp2_with fail
    refine hK.out _ _ (⟨ArrAt.range HA_20.out, ArrAt.range HT_20.out⟩) (fun hHeld => ?_)
    clear hK K
    try simp only [List.getElem_toArray, List.getElem_cons_succ, List.getElem_cons_zero, Act.put, List.setIfInBounds_toArray, List.set_cons_zero, List.set_cons_succ]
    obtain ⟨A_HH1, c_HH1, e_HH1⟩ := Kd.R_slice HH1_0.out
    subst e_HH1
    refine wpAnyH_take (i := 7) (v := ?_) rfl (by kernel_rfl) (by kernel_rfl) (by kernel_rfl) (fun _ _ _ h => h) (Or.inl ⟨by rfl, ?_⟩) (by assumption) ?_
    rotate_left
    · intro w hSw
      go_simp
      with_reducible rfl
    try simp only [List.getElem_toArray, List.getElem_cons_succ, List.getElem_cons_zero, Act.put, List.setIfInBounds_toArray, List.set_cons_zero, List.set_cons_succ]
    refine wpAnyH_take (i := 8) (v := ?_) rfl (by kernel_rfl) (by kernel_rfl) (by kernel_rfl) (fun _ _ _ h => h) (Or.inl ⟨by rfl, ?_⟩) (by assumption) ?_
    rotate_left
    · intro w hSw
      go_simp
      with_reducible rfl
    try simp only [List.getElem_toArray, List.getElem_cons_succ, List.getElem_cons_zero, Act.put, List.setIfInBounds_toArray, List.set_cons_zero, List.set_cons_succ]
    refine wpAnyH_take (i := 9) (v := ?_) rfl (by kernel_rfl) (by kernel_rfl) (by kernel_rfl) (fun _ _ _ h => h) (Or.inl ⟨by rfl, ?_⟩) (by assumption) ?_
    rotate_left
    · intro w hSw
      go_simp
      with_reducible rfl
    try simp only [List.getElem_toArray, List.getElem_cons_succ, List.getElem_cons_zero, Act.put, List.setIfInBounds_toArray, List.set_cons_zero, List.set_cons_succ]
    refine wpAnyH_take (i := 10) (v := ?_) rfl (by kernel_rfl) (by kernel_rfl) (by kernel_rfl) (fun _ _ _ h => h) (Or.inl ⟨by rfl, ?_⟩) (by assumption) ?_
    rotate_left
    · intro w hSw
      go_simp
      with_reducible rfl
    try simp only [List.getElem_toArray, List.getElem_cons_succ, List.getElem_cons_zero, Act.put, List.setIfInBounds_toArray, List.set_cons_zero, List.set_cons_succ]
    refine wpAnyH_take (i := 11) (v := ?_) rfl (by kernel_rfl) (by kernel_rfl) (by kernel_rfl) (fun _ _ _ h => h) (Or.inl ⟨by rfl, ?_⟩) (by assumption) ?_
    rotate_left
    · intro w hSw
      go_simp
      with_reducible rfl
    try simp only [List.getElem_toArray, List.getElem_cons_succ, List.getElem_cons_zero, Act.put, List.setIfInBounds_toArray, List.set_cons_zero, List.set_cons_succ]
    refine wpAnyH_done (by kernel_rfl) ?_ _
    clear hHeld
    go_wp2_with fail
    refine (laws_eqStepS.calls _ _ _ Z.1 _ _ Z.1 true _ (Kd.R_reads' HH1_0.out).2.2 (Kd.R_reads' HH1_0.out).2.1 (Kd.R_reads' W1_20.out).2.2 (Kd.R_reads' W1_20.out).2.1 HE2.out).mono ?_
    rintro e w21 ⟨rfl, hb⟩
    have SZ21 := Aside0.mk (show w20.heap.size ≤ w21.heap.size from (by have h_ := Below.size hb; exact h_))
    have HA_21 := Aside0.mk (ArrAt.below HA_20.out hb)
    have HT_21 := Aside0.mk (ArrAt.below HT_20.out hb)
    have HB_21 := Aside0.mk (below_step HB_20.out hb)
    have W1_21 := Aside0.mk (Kd.R_below W1_20.out hb)
    have G1_21 := Aside0.mk (Kd.R_below G1_20.out hb)
    have HH1_21 := Aside0.mk (Kd.R_below HH1_0.out hb)
    clear hb HA_20 HT_20 HB_20 W1_20 G1_20 HH1_0
    go_wp2_with fail
    refine (laws_heldStepS.calls _ _ _ g2 1 _ _ (Kd.R_reads' G1_21.out).2.2 (Nat.le_trans (Nat.le_of_eq HGL.out.symm) (Kd.R_reads' G1_21.out).2.1) HHG.out).mono ?_
    rintro e w22 ⟨rfl, hb⟩
    have SZ22 := Aside0.mk (show w21.heap.size ≤ w22.heap.size from (by have h_ := Below.size hb.below; exact h_))
    have HA_22 := Aside0.mk (ArrAt.below HA_21.out hb.below)
    have HT_22 := Aside0.mk (ArrAt.below HT_21.out hb.below)
    have HB_22 := Aside0.mk (below_step HB_21.out hb.below)
    have W1_22 := Aside0.mk (Kd.R_below W1_21.out hb.below)
    have G1_22 := Aside0.mk (Kd.R_below G1_21.out hb.below)
    have HH1_22 := Aside0.mk (Kd.R_below HH1_21.out hb.below)
    clear hb HA_21 HT_21 HB_21 W1_21 G1_21 HH1_21
    go_wp2_with fail
    go_ret
    exact ⟨rfl, HB_22.out⟩
end Go.Proofs.Yticnajjbmdfidaa.Q
