-- The row of PrintFrom.
import Derived.Test.YticnajjbmdfidaaQx4
import Derived.Test.YticnajjbmdfidaaQx5
import Derived.Test.YticnajjbmdfidaaQx6
import Derived.Test.YticnajjbmdfidaaQx7
import Derived.Test.YticnajjbmdfidaaQx8
import Derived.Test.YticnajjbmdfidaaQx10
import Derived.Test.YticnajjbmdfidaaQx13
import Derived.Test.YticnajjbmdfidaaQx15
import Derived.Test.YticnajjbmdfidaaQx19
import Derived.Test.YticnajjbmdfidaaArrFrom
import Derived.Test.YticnajjbmdfidaaArrPLX
import Derived.Test.YticnajjbmdfidaaArrPLC
namespace Go.Proofs.Yticnajjbmdfidaa.Q
open Go.RowKit Go.Proofs.Yticnajjbmdfidaa.PL Go.Proofs.YticnajjbmdfidaaW.PrintWords Go.Proofs.YticnajjbmdfidaaW.PrintLast Go.Proofs.YticnajjbmdfidaaW.PrintMore
attribute [local go_sem] max2_int min2_int max_two min_two max_three min_three max_four min_four
set_option linter.unusedVariables false
set_option linter.unusedSimpArgs false
set_option maxHeartbeats 8000000 in
set_option maxRecDepth 100000 in
theorem laws_FnExactPrintFrom.arr (w : World) (xs : List Int) (hl : xs.length = 64) (h16 : ∀ x ∈ xs, -32768 ≤ x ∧ x ≤ 32767) (A1 : Option Addr) (c1 : Nat) (l : List S93) (hr1 : Kd.C k93 w A1 l.length l) (hc1 : l.length ≤ c1) (hw1 : ∀ x ∈ l, -32768 ≤ x.f0 ∧ x.f0 ≤ 32767 ∧ -32768 ≤ x.f1 ∧ x.f1 ≤ 32767) (yy1 : l.length * 4 ≤ 140737488351232)
    (A2 : Option Addr) (c2 : Nat) (st : List S82) (hr2 : Kd.C k82 w A2 st.length st) (hc2 : st.length ≤ c2) (hw2 : ∀ x ∈ st, 0 ≤ x.f0 ∧ x.f0 ≤ 18446744073709551615 ∧ -128 ≤ x.f1 ∧ x.f1 ≤ 127) (yy2 : st.length * 16 ≤ 140737488351232) :
    Calls Try.prog 6 #[.agg (nums .i16 xs).toArray, .slice A1 l.length c1, .slice A2 st.length c2] w fun e w' => e = .returned (.bool true) ∧ Below w.heap.size w w' := by
  have HX := Aside0.mk hl
  have H16 := Aside0.mk h16
  have HC1 := Aside0.mk hc1
  have HC2 := Aside0.mk hc2
  have HSZ1 := Aside0.mk (L_szCurve l 1048576 (by omega) yy1)
  have H1 := Aside0.mk (L_map16 l hw1)
  have H8 := Aside0.mk (L_map8 st hw2)
  have hba := (Below.refl w.heap.size w).alloc (Nat.le_refl _) (.cells (nums .i16 xs).toArray 36)
  have HA := Aside0.mk (ArrAt.new w 36 .i16 xs)
  have HB := Aside0.mk hba
  have HR1 := Aside0.mk (Kd.C_below hr1 hba)
  have HR2 := Aside0.mk (Kd.C_below hr2 hba)
  have HL1 := hba
  clear hl h16 hr1 hc1 hr2 hc2 hw1 hw2 hba HL1
  by_cases hbig : (1048576 : Int) < (l.length : Int)
  · have HS := Aside0.mk (show laws_szCurve.f l 1048576 = some (-1) by rw [HSZ1.out, if_pos hbig])
    clear hbig yy1 yy2
    go_enter Try.func6, Try.ntmps6
    go_wp2_with fail
    refine (laws_szCurve.calls _ _ l 1048576 (-1) _ HR1.out HC1.out HS.out).mono ?_
    rintro e w1 ⟨rfl, hb⟩
    have HA_1 := Aside0.mk (HA.out.below hb.below)
    have HB_1 := Aside0.mk (below_step HB.out hb.below)
    have HR1_1 := Aside0.mk (Kd.C_below HR1.out hb.below)
    have HR2_1 := Aside0.mk (Kd.C_below HR2.out hb.below)
    clear hb HA HB HR1 HR2
    go_wp2_with fail
    go_ret
    exact ⟨rfl, HB_1.out⟩
  · obtain ⟨s1, hs1⟩ : ∃ s1, s1 = (1048576 : Int) - (l.length : Int) := ⟨_, rfl⟩
    have HS := Aside0.mk (show laws_szCurve.f l 1048576 = some s1 by rw [HSZ1.out, if_neg hbig, hs1])
    have hlt : decide (s1 < 0) = false := decide_eq_false (by omega)
    have HSZ2 := Aside0.mk (L_szStepsA st s1 (by omega) yy2)
    have HT1 := Aside0.mk (L_toCurve l (by omega) (k := l.length + 1) (by omega))
    obtain ⟨m, hm⟩ : ∃ m, m = l.map D_point := ⟨_, rfl⟩
    rw [← hm] at HT1 H1
    have hml : m.length = l.length := by rw [hm]; simp
    have HN1 := Aside0.mk (show m.length ≤ 140737488351232 by omega)
    have HE1 := Aside0.mk (L_eqCurve m (by omega) (k := m.length + 1) (by omega))
    by_cases hbig2 : s1 < (st.length : Int)
    · have HS2 := Aside0.mk (show laws_szStepS.f st s1 = some (-1) by rw [HSZ2.out, if_pos hbig2])
      clear hbig hbig2 yy1 yy2 hs1 hm hml
      go_enter Try.func6, Try.ntmps6
      go_wp2_with fail
      refine (laws_szCurve.calls _ _ l 1048576 s1 _ HR1.out HC1.out HS.out).mono ?_
      rintro e w1 ⟨rfl, hb⟩
      have HA_1 := Aside0.mk (HA.out.below hb.below)
      have HB_1 := Aside0.mk (below_step HB.out hb.below)
      have HR1_1 := Aside0.mk (Kd.C_below HR1.out hb.below)
      have HR2_1 := Aside0.mk (Kd.C_below HR2.out hb.below)
      clear hb HA HB HR1 HR2
      go_wp2_with fail
      refine (laws_szStepS.calls _ _ st s1 (-1) _ HR2_1.out HC2.out HS2.out).mono ?_
      rintro e w2 ⟨rfl, hb⟩
      have HA_2 := Aside0.mk (HA_1.out.below hb.below)
      have HB_2 := Aside0.mk (below_step HB_1.out hb.below)
      have HR1_2 := Aside0.mk (Kd.C_below HR1_1.out hb.below)
      have HR2_2 := Aside0.mk (Kd.C_below HR2_1.out hb.below)
      clear hb HA_1 HB_1 HR1_1 HR2_1
      go_wp2_with fail
      go_ret
      exact ⟨rfl, HB_2.out⟩
    · have HS2 := Aside0.mk (show laws_szStepS.f st s1 = some (s1 - (st.length : Int)) by rw [HSZ2.out, if_neg hbig2])
      have hlt2 : decide (s1 - (st.length : Int) < 0) = false := decide_eq_false (by omega)
      obtain ⟨s2, hs2⟩ : ∃ s2, s2 = s1 - (st.length : Int) := ⟨_, rfl⟩
      rw [← hs2] at HS2 hlt2
      have HT2 := Aside0.mk (L_toSteps st (by omega) (k := st.length + 1) (by omega))
      obtain ⟨q, hq⟩ : ∃ q, q = st.map D_step := ⟨_, rfl⟩
      rw [← hq] at HT2 H8
      have hql : q.length = st.length := by rw [hq]; simp
      have HN2 := Aside0.mk (show q.length ≤ 140737488351232 by omega)
      have HE2 := Aside0.mk (L_eqSteps q (by omega) (k := q.length + 1) (by omega))
      obtain ⟨Z, hZ⟩ : ∃ Z, Z = D_printFrom xs m q := ⟨_, rfl⟩
      have HL := Aside0.mk (show Z.1.length = 64 by rw [hZ]; exact D_printFrom_len xs m q)
      have HZ := Aside0.mk hZ
      clear hbig hbig2 yy1 yy2 hs1 hs2 hm hml hq hql hZ HSZ1 HSZ2
      go_enter Try.func6, Try.ntmps6
      go_wp2_with fail
      refine (laws_szCurve.calls _ _ l 1048576 s1 _ HR1.out HC1.out HS.out).mono ?_
      rintro e w1 ⟨rfl, hb⟩
      have HA_1 := Aside0.mk (HA.out.below hb.below)
      have HB_1 := Aside0.mk (below_step HB.out hb.below)
      have HR1_1 := Aside0.mk (Kd.C_below HR1.out hb.below)
      have HR2_1 := Aside0.mk (Kd.C_below HR2.out hb.below)
      clear hb HA HB HR1 HR2
      go_wp2_with fail
      refine (laws_szStepS.calls _ _ st s1 s2 _ HR2_1.out HC2.out HS2.out).mono ?_
      rintro e w2 ⟨rfl, hb⟩
      have HA_2 := Aside0.mk (HA_1.out.below hb.below)
      have HB_2 := Aside0.mk (below_step HB_1.out hb.below)
      have HR1_2 := Aside0.mk (Kd.C_below HR1_1.out hb.below)
      have HR2_2 := Aside0.mk (Kd.C_below HR2_1.out hb.below)
      clear hb HA_1 HB_1 HR1_1 HR2_1
      go_wp2_with (first | (refine arr_load rfl 36 _ rfl w.heap.size rfl 36 .i16 xs HA_2.out _ Try.underlying36 rfl 64 (by kernel_rfl) HX.out ?_))
      refine (laws_toNegative.arr xs HX.out _).mono ?_
      rintro e w3 ⟨rfl, hb⟩
      have HA_3 := Aside0.mk (HA_2.out.below hb)
      have HB_3 := Aside0.mk (below_step HB_2.out hb)
      have HR1_3 := Aside0.mk (Kd.C_below HR1_2.out hb)
      have HR2_3 := Aside0.mk (Kd.C_below HR2_2.out hb)
      clear hb HA_2 HB_2 HR1_2 HR2_2
      go_wp2_with fail
      refine (laws_toCurve.calls _ _ _ l m _ HR1_3.out HC1.out HT1.out).mono ?_
      rintro e w4 ⟨v_X1, rfl, ho, hb⟩
      obtain ⟨A_X1, c_X1, e_X1⟩ := Kd.R_slice ho
      subst e_X1
      have X1_r := Aside0.mk (Kd.R_reads' ho).2.2
      have X1_c := Aside0.mk (Kd.R_reads' ho).2.1
      clear ho
      have HA_4 := Aside0.mk (HA_3.out.below hb)
      have HB_4 := Aside0.mk (below_step HB_3.out hb)
      have HR1_4 := Aside0.mk (Kd.C_below HR1_3.out hb)
      have HR2_4 := Aside0.mk (Kd.C_below HR2_3.out hb)
      clear hb HA_3 HB_3 HR1_3 HR2_3
      go_wp2_with fail
      refine (laws_toStepS.calls _ _ _ st q _ HR2_4.out HC2.out HT2.out).mono ?_
      rintro e w5 ⟨v_X2, rfl, ho, hb⟩
      obtain ⟨A_X2, c_X2, e_X2⟩ := Kd.R_slice ho
      subst e_X2
      have X2_r := Aside0.mk (Kd.R_reads' ho).2.2
      have X2_c := Aside0.mk (Kd.R_reads' ho).2.1
      clear ho
      have HA_5 := Aside0.mk (HA_4.out.below hb)
      have HB_5 := Aside0.mk (below_step HB_4.out hb)
      have HR1_5 := Aside0.mk (Kd.C_below HR1_4.out hb)
      have HR2_5 := Aside0.mk (Kd.C_below HR2_4.out hb)
      have X1_5 := Aside0.mk (Kd.C_below X1_r.out hb)
      clear hb HA_4 HB_4 HR1_4 HR2_4 X1_r
      go_wp2_with fail
      refine (spec_PrintFrom.arr xs HX.out H16.out _ _ m _ _ q _ X1_5.out X1_c.out X2_r.out X2_c.out H1.out HN1.out H8.out HN2.out).mono ?_
      rintro e w6 ⟨rfl, hb⟩
      rw [← HZ.out]
      have HA_6 := Aside0.mk (HA_5.out.below hb)
      have HB_6 := Aside0.mk (below_step HB_5.out hb)
      have HR1_6 := Aside0.mk (Kd.C_below HR1_5.out hb)
      have HR2_6 := Aside0.mk (Kd.C_below HR2_5.out hb)
      have X1_6 := Aside0.mk (Kd.C_below X1_5.out hb)
      have X2_6 := Aside0.mk (Kd.C_below X2_r.out hb)
      clear hb HA_5 HB_5 HR1_5 HR2_5 X1_5 X2_r
      have G0_n := Aside0.mk (ArrAt.new w6 39 .i16 (zer 64))
      have G0_0 := Aside0.mk (G0_n.out.row (ys := Z.1))
      have hba := below_row (below_alloc (Below.refl w6.heap.size w6) (.cells (nums .i16 (zer 64)).toArray 39)) (Nat.le_refl w6.heap.size) (nums .i16 Z.1).toArray
      have HA_7 := Aside0.mk (HA_6.out.below hba)
      have HB_7 := Aside0.mk (below_step HB_6.out hba)
      have HR1_7 := Aside0.mk (Kd.C_below HR1_6.out hba)
      have HR2_7 := Aside0.mk (Kd.C_below HR2_6.out hba)
      clear hba HA_6 HB_6 HR1_6 HR2_6
      go_wp2_with (first | (refine arr_store rfl 39 _ _ rfl w6.heap.size .i16 Z.1 rfl rfl 39 (zer 64) G0_n.out 64 (by kernel_rfl) (zer_len 64) HL.out ?_))
      refine (laws_toCurve.calls _ _ _ l m _ HR1_7.out HC1.out HT1.out).mono ?_
      rintro e w8 ⟨v_Y1, rfl, ho, hb⟩
      obtain ⟨A_Y1, c_Y1, e_Y1⟩ := Kd.R_slice ho
      subst e_Y1
      have Y1_r := Aside0.mk (Kd.R_reads' ho).2.2
      have Y1_c := Aside0.mk (Kd.R_reads' ho).2.1
      clear ho
      have HA_8 := Aside0.mk (HA_7.out.below hb)
      have HB_8 := Aside0.mk (below_step HB_7.out hb)
      have HR1_8 := Aside0.mk (Kd.C_below HR1_7.out hb)
      have HR2_8 := Aside0.mk (Kd.C_below HR2_7.out hb)
      have G0_8 := Aside0.mk (G0_0.out.below hb)
      clear hb HA_7 HB_7 HR1_7 HR2_7 G0_0
      go_wp2_with fail
      refine (laws_toStepS.calls _ _ _ st q _ HR2_8.out HC2.out HT2.out).mono ?_
      rintro e w9 ⟨v_Y2, rfl, ho, hb⟩
      obtain ⟨A_Y2, c_Y2, e_Y2⟩ := Kd.R_slice ho
      subst e_Y2
      have Y2_r := Aside0.mk (Kd.R_reads' ho).2.2
      have Y2_c := Aside0.mk (Kd.R_reads' ho).2.1
      clear ho
      have HA_9 := Aside0.mk (HA_8.out.below hb)
      have HB_9 := Aside0.mk (below_step HB_8.out hb)
      have HR1_9 := Aside0.mk (Kd.C_below HR1_8.out hb)
      have HR2_9 := Aside0.mk (Kd.C_below HR2_8.out hb)
      have G0_9 := Aside0.mk (G0_8.out.below hb)
      have Y1_9 := Aside0.mk (Kd.C_below Y1_r.out hb)
      clear hb HA_8 HB_8 HR1_8 HR2_8 G0_8 Y1_r
      go_wp2_with (first | (refine arr_load rfl 36 _ rfl w.heap.size rfl 36 .i16 xs HA_9.out _ Try.underlying36 rfl 64 (by kernel_rfl) HX.out ?_) | (refine arr_load rfl 39 _ rfl w6.heap.size rfl 39 .i16 Z.1 G0_9.out _ Try.underlying39 rfl 64 (by kernel_rfl) HL.out ?_))
      refine (laws_toNegative.arr xs HX.out _).mono ?_
      rintro e w10 ⟨rfl, hb⟩
      have HA_10 := Aside0.mk (HA_9.out.below hb)
      have HB_10 := Aside0.mk (below_step HB_9.out hb)
      have HR1_10 := Aside0.mk (Kd.C_below HR1_9.out hb)
      have HR2_10 := Aside0.mk (Kd.C_below HR2_9.out hb)
      have G0_10 := Aside0.mk (G0_9.out.below hb)
      have Y1_10 := Aside0.mk (Kd.C_below Y1_9.out hb)
      have Y2_10 := Aside0.mk (Kd.C_below Y2_r.out hb)
      clear hb HA_9 HB_9 HR1_9 HR2_9 G0_9 Y1_9 Y2_r
      go_wp2_with fail
      refine (impl_PrintFrom.arr xs HX.out H16.out _ _ m _ _ q _ Y1_10.out Y1_c.out Y2_10.out Y2_c.out H1.out HN1.out H8.out HN2.out).mono ?_
      rintro e w11 ⟨rfl, hb⟩
      rw [← HZ.out]
      have HA_11 := Aside0.mk (HA_10.out.below hb)
      have HB_11 := Aside0.mk (below_step HB_10.out hb)
      have HR1_11 := Aside0.mk (Kd.C_below HR1_10.out hb)
      have HR2_11 := Aside0.mk (Kd.C_below HR2_10.out hb)
      have G0_11 := Aside0.mk (G0_10.out.below hb)
      have Y1_11 := Aside0.mk (Kd.C_below Y1_10.out hb)
      have Y2_11 := Aside0.mk (Kd.C_below Y2_10.out hb)
      clear hb HA_10 HB_10 HR1_10 HR2_10 G0_10 Y1_10 Y2_10
      have G1_n := Aside0.mk (ArrAt.new w11 39 .i16 (zer 64))
      have G1_0 := Aside0.mk (G1_n.out.row (ys := Z.1))
      have hba := below_row (below_alloc (Below.refl w11.heap.size w11) (.cells (nums .i16 (zer 64)).toArray 39)) (Nat.le_refl w11.heap.size) (nums .i16 Z.1).toArray
      have HA_12 := Aside0.mk (HA_11.out.below hba)
      have HB_12 := Aside0.mk (below_step HB_11.out hba)
      have HR1_12 := Aside0.mk (Kd.C_below HR1_11.out hba)
      have HR2_12 := Aside0.mk (Kd.C_below HR2_11.out hba)
      have G0_12 := Aside0.mk (G0_11.out.below hba)
      have Y1_12 := Aside0.mk (Kd.C_below Y1_11.out hba)
      have Y2_12 := Aside0.mk (Kd.C_below Y2_11.out hba)
      clear hba HA_11 HB_11 HR1_11 HR2_11 G0_11 Y1_11 Y2_11
      go_wp2_with (first | (refine arr_store rfl 39 _ _ rfl w11.heap.size .i16 Z.1 rfl rfl 39 (zer 64) G1_n.out 64 (by kernel_rfl) (zer_len 64) HL.out ?_) | (refine arr_load rfl 36 _ rfl w.heap.size rfl 36 .i16 xs HA_12.out _ Try.underlying36 rfl 64 (by kernel_rfl) HX.out ?_) | (refine arr_load rfl 39 _ rfl w6.heap.size rfl 39 .i16 Z.1 G0_12.out _ Try.underlying39 rfl 64 (by kernel_rfl) HL.out ?_) | (refine arr_load rfl 39 _ rfl w11.heap.size rfl 39 .i16 Z.1 G1_0.out _ Try.underlying39 rfl 64 (by kernel_rfl) HL.out ?_))
      refine (laws_eqPrint.arr Z.1 Z.1 HL.out HL.out _).mono ?_
      rintro e w13 ⟨rfl, hb⟩
      have HA_13 := Aside0.mk (HA_12.out.below hb)
      have HB_13 := Aside0.mk (below_step HB_12.out hb)
      have HR1_13 := Aside0.mk (Kd.C_below HR1_12.out hb)
      have HR2_13 := Aside0.mk (Kd.C_below HR2_12.out hb)
      have G0_13 := Aside0.mk (G0_12.out.below hb)
      have Y1_13 := Aside0.mk (Kd.C_below Y1_12.out hb)
      have Y2_13 := Aside0.mk (Kd.C_below Y2_12.out hb)
      have G1_13 := Aside0.mk (G1_0.out.below hb)
      clear hb HA_12 HB_12 HR1_12 HR2_12 G0_12 Y1_12 Y2_12 G1_0
      have ht : decide (Z.1 = Z.1) = true := decide_eq_true rfl
      have hn : (Z.2 != Z.2) = false := by simp
      go_wp2_with fail
      refine (laws_toCurve.calls _ _ _ l m _ HR1_13.out HC1.out HT1.out).mono ?_
      rintro e w14 ⟨v_U1, rfl, ho, hb⟩
      obtain ⟨A_U1, c_U1, e_U1⟩ := Kd.R_slice ho
      subst e_U1
      have U1_r := Aside0.mk (Kd.R_reads' ho).2.2
      have U1_c := Aside0.mk (Kd.R_reads' ho).2.1
      clear ho
      have HA_14 := Aside0.mk (HA_13.out.below hb)
      have HB_14 := Aside0.mk (below_step HB_13.out hb)
      have HR1_14 := Aside0.mk (Kd.C_below HR1_13.out hb)
      have HR2_14 := Aside0.mk (Kd.C_below HR2_13.out hb)
      have Y1_14 := Aside0.mk (Kd.C_below Y1_13.out hb)
      have Y2_14 := Aside0.mk (Kd.C_below Y2_13.out hb)
      clear hb HA_13 HB_13 HR1_13 HR2_13 Y1_13 Y2_13
      go_wp2_with fail
      refine (laws_eqCurve.calls _ _ _ m _ _ m true _ Y1_14.out Y1_c.out U1_r.out U1_c.out HE1.out).mono ?_
      rintro e w15 ⟨rfl, hb⟩
      have HA_15 := Aside0.mk (HA_14.out.below hb)
      have HB_15 := Aside0.mk (below_step HB_14.out hb)
      have HR1_15 := Aside0.mk (Kd.C_below HR1_14.out hb)
      have HR2_15 := Aside0.mk (Kd.C_below HR2_14.out hb)
      have Y1_15 := Aside0.mk (Kd.C_below Y1_14.out hb)
      have Y2_15 := Aside0.mk (Kd.C_below Y2_14.out hb)
      have U1_15 := Aside0.mk (Kd.C_below U1_r.out hb)
      clear hb HA_14 HB_14 HR1_14 HR2_14 Y1_14 Y2_14 U1_r
      go_wp2_with fail
      refine (laws_toStepS.calls _ _ _ st q _ HR2_15.out HC2.out HT2.out).mono ?_
      rintro e w16 ⟨v_U2, rfl, ho, hb⟩
      obtain ⟨A_U2, c_U2, e_U2⟩ := Kd.R_slice ho
      subst e_U2
      have U2_r := Aside0.mk (Kd.R_reads' ho).2.2
      have U2_c := Aside0.mk (Kd.R_reads' ho).2.1
      clear ho
      have HA_16 := Aside0.mk (HA_15.out.below hb)
      have HB_16 := Aside0.mk (below_step HB_15.out hb)
      have HR1_16 := Aside0.mk (Kd.C_below HR1_15.out hb)
      have HR2_16 := Aside0.mk (Kd.C_below HR2_15.out hb)
      have Y1_16 := Aside0.mk (Kd.C_below Y1_15.out hb)
      have Y2_16 := Aside0.mk (Kd.C_below Y2_15.out hb)
      have U1_16 := Aside0.mk (Kd.C_below U1_15.out hb)
      clear hb HA_15 HB_15 HR1_15 HR2_15 Y1_15 Y2_15 U1_15
      go_wp2_with fail
      refine (laws_eqStepS.calls _ _ _ q _ _ q true _ Y2_16.out Y2_c.out U2_r.out U2_c.out HE2.out).mono ?_
      rintro e w17 ⟨rfl, hb⟩
      have HA_17 := Aside0.mk (HA_16.out.below hb)
      have HB_17 := Aside0.mk (below_step HB_16.out hb)
      have HR1_17 := Aside0.mk (Kd.C_below HR1_16.out hb)
      have HR2_17 := Aside0.mk (Kd.C_below HR2_16.out hb)
      have Y1_17 := Aside0.mk (Kd.C_below Y1_16.out hb)
      have Y2_17 := Aside0.mk (Kd.C_below Y2_16.out hb)
      have U1_17 := Aside0.mk (Kd.C_below U1_16.out hb)
      have U2_17 := Aside0.mk (Kd.C_below U2_r.out hb)
      clear hb HA_16 HB_16 HR1_16 HR2_16 Y1_16 Y2_16 U1_16 U2_r
      go_wp2_with fail
      go_ret
      exact ⟨rfl, HB_17.out⟩
end Go.Proofs.Yticnajjbmdfidaa.Q
