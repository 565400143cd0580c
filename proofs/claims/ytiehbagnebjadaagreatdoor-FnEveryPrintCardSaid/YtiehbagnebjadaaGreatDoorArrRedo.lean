-- Prints by a log.
import Derived.Test.YtiehbagnebjadaaGreatDoorQx6
import Derived.Test.YtiehbagnebjadaaGreatDoorQx8
import Derived.Test.YtiehbagnebjadaaGreatDoorQx10
import Derived.Test.YtiehbagnebjadaaGreatDoorQx11
import Derived.Test.YtiehbagnebjadaaGreatDoorQx12
import Derived.Test.YtiehbagnebjadaaGreatDoorQx14
import Derived.Test.YtiehbagnebjadaaGreatDoorArrFrom
namespace Go.Proofs.YtiehbagnebjadaaGreatDoor.Q
open Go.RowKit Go.Proofs.YtiehbagnebjadaaGreatDoor.PL Go.Proofs.YtiehbagnebjadaaGreatDoorW.PrintWords Go.Proofs.YtiehbagnebjadaaGreatDoorW.PrintLast Go.Proofs.YtiehbagnebjadaaGreatDoorW.PrintMore
attribute [local go_sem] max2_int min2_int max_two min_two max_three min_three max_four min_four
set_option linter.unusedVariables false
set_option linter.unusedSimpArgs false
def D_redo (xs : List Int) (P : List S116) (S : List S89) (c : Int) : List Int × Int := if D_dense xs then (if c = 0 then (D_from xs P S, 0) else (zer 64, c)) else (zer 64, 1)
theorem D_redo_len (xs : List Int) (P : List S116) (S : List S89) (c : Int) : (D_redo xs P S c).1.length = 64 := by
  unfold D_redo
  split
  · split <;> simp [D_fromLen, zer]
  · simp [zer]
set_option maxHeartbeats 8000000 in
set_option maxRecDepth 100000 in
theorem spec_RedoLog.arr (xs : List Int) (hl : xs.length = 64) (h16 : ∀ x ∈ xs, -32768 ≤ x ∧ x ≤ 32767) (k : Nat) (s : ByteArray) (P : List S116) (S : List S89) (c : Int) (w : World) (hR : spec_ReadLog.f k s = some (P, S, c)) (hok : c = 0 → D_curve P = true ∧ D_steps S) :
    Calls Tryz.prog 16 #[.agg (nums .i16 xs).toArray, .string s] w fun e w' => e = .returned (.tuple #[.agg (nums .i16 (D_redo xs P S c).1).toArray, .int .i64 (D_redo xs P S c).2]) ∧ Below w.heap.size w w' := by
  have HX := Aside0.mk hl
  have H16 := Aside0.mk h16
  have HRL := Aside0.mk hR
  have HOK := Aside0.mk hok
  have hba := arr_below2 w (.cells (nums .i16 xs).toArray 37) (.cells (nums .i16 (zer 64)).toArray 34)
  have HA := Aside0.mk (arr_new2a w 37 .i16 xs (.cells (nums .i16 (zer 64)).toArray 34))
  have HZ := Aside0.mk (arr_new2b w (.cells (nums .i16 xs).toArray 37) 34 .i16 (zer 64))
  have HB := Aside0.mk hba
  clear hl h16 hR hok hba
  go_enter Tryz.func16, Tryz.ntmps16
  have HZL := Aside0.mk (zer_len 64)
  go_wp2_with fail
  refine (spec_l03Negative.arr w.heap.size xs HX.out H16.out _ HA.out).mono ?_
  rintro e w1 ⟨rfl, hb⟩
  have HA_1 := Aside0.mk (ArrAt.below HA.out hb)
  have HZ_1 := Aside0.mk (ArrAt.below HZ.out hb)
  have HB_1 := Aside0.mk (below_step HB.out hb)
  clear hb HA HZ HB
  by_cases hq : D_dense xs
  · have hdd : decide (D_dense xs) = true := decide_eq_true hq
    have HQ := Aside0.mk hq
    clear hq
    go_wp2_with fail
    refine (spec_ReadLog.calls k s P S c _ HRL.out).mono ?_
    rintro e w2 ⟨v_P, v_S, rfl, ho1, ho2, hb⟩
    obtain ⟨A_P, c_P, e_P⟩ := Kd.R_slice ho1
    subst e_P
    have P_r := Aside0.mk (Kd.R_reads' ho1).2.2
    have P_c := Aside0.mk (Kd.R_reads' ho1).2.1
    clear ho1
    obtain ⟨A_S, c_S, e_S⟩ := Kd.R_slice ho2
    subst e_S
    have S_r := Aside0.mk (Kd.R_reads' ho2).2.2
    have S_c := Aside0.mk (Kd.R_reads' ho2).2.1
    clear ho2
    have HA_2 := Aside0.mk (ArrAt.below HA_1.out hb)
    have HZ_2 := Aside0.mk (ArrAt.below HZ_1.out hb)
    have HB_2 := Aside0.mk (below_step HB_1.out hb)
    clear hb HA_1 HZ_1 HB_1
    by_cases hc : c = 0
    · have HE := Aside0.mk (show D_redo xs P S c = (D_from xs P S, 0) from (if_pos HQ.out).trans (if_pos hc))
      have HKK := Aside0.mk (HOK.out hc)
      clear HOK HRL
      subst hc
      go_wp2_with fail
      refine (spec_l03From.arr w.heap.size xs HX.out _ _ P _ _ S _ P_r.out P_c.out S_r.out S_c.out HA_2.out HQ.out HKK.out.1 HKK.out.2.1).mono ?_
      rintro e w3 ⟨rfl, hb⟩
      have HA_3 := Aside0.mk (ArrAt.below HA_2.out hb)
      have HZ_3 := Aside0.mk (ArrAt.below HZ_2.out hb)
      have HB_3 := Aside0.mk (below_step HB_2.out hb)
      have P_3 := Aside0.mk (Kd.C_below P_r.out hb)
      have S_3 := Aside0.mk (Kd.C_below S_r.out hb)
      clear hb HA_2 HZ_2 HB_2 P_r S_r
      obtain ⟨Z, hZ⟩ : ∃ Z, Z = D_from xs P S := ⟨_, rfl⟩
      have HL := Aside0.mk (show Z.length = 64 by rw [hZ]; exact D_fromLen xs P S)
      rw [← hZ]
      have HZZ := Aside0.mk hZ
      clear hZ
      go_wp2_with (first | (refine arr_store rfl 34 _ _ rfl (w.heap.size + 1) .i16 Z rfl rfl 34 (zer 64) HZ_3.out 64 (by kernel_rfl) (zer_len 64) HL.out ?_))
      refine bodyPost_ret (results_ct rfl _ _ (w.heap.size + 1) 34 (nums .i16 Z).toArray (0, 0) _ rfl HZ_3.out.row Tryz.underlying34 rfl (by rw [show (Array.size (nums .i16 Z).toArray) = 64 by simp [nums, HL.out]]; kernel_rfl)) rfl ?_
      exact ⟨by rw [HE.out, HZZ.out]; rfl, below_row HB_3.out (by omega) _⟩
    · have hc1 : (c == 0) = false := beq_eq_false_iff_ne.mpr hc
      have hc2 : (c != 0) = true := bne_iff_ne.mpr hc
      have hc3 : decide (c = 0) = false := decide_eq_false hc
      have HE := Aside0.mk (show D_redo xs P S c = (zer 64, c) from (if_pos HQ.out).trans (if_neg hc))
      clear hc
      go_wp2_with (first | (refine arr_store rfl 34 _ _ rfl (w.heap.size + 1) .i16 (zer 64) rfl rfl 34 (zer 64) HZ_2.out 64 (by kernel_rfl) (zer_len 64) (zer_len 64) ?_))
      refine bodyPost_ret (results_ct rfl _ _ (w.heap.size + 1) 34 (nums .i16 (zer 64)).toArray (0, 0) _ rfl HZ_2.out.row Tryz.underlying34 rfl (by rw [show (Array.size (nums .i16 (zer 64)).toArray) = 64 by simp [nums, zer]]; kernel_rfl)) rfl ?_
      exact ⟨by rw [HE.out]; rfl, below_row HB_2.out (by omega) _⟩
  · have hdd : decide (D_dense xs) = false := decide_eq_false hq
    have HE := Aside0.mk (show D_redo xs P S c = (zer 64, 1) from if_neg hq)
    clear hq
    go_wp2_with (first | (refine arr_store rfl 34 _ _ rfl (w.heap.size + 1) .i16 (zer 64) rfl rfl 34 (zer 64) HZ_1.out 64 (by kernel_rfl) (zer_len 64) (zer_len 64) ?_))
    refine bodyPost_ret (results_ct rfl _ _ (w.heap.size + 1) 34 (nums .i16 (zer 64)).toArray (0, 0) _ rfl HZ_1.out.row Tryz.underlying34 rfl (by rw [show (Array.size (nums .i16 (zer 64)).toArray) = 64 by simp [nums, zer]]; kernel_rfl)) rfl ?_
    exact ⟨by rw [HE.out]; rfl, below_row HB_1.out (by omega) _⟩
set_option maxHeartbeats 8000000 in
set_option maxRecDepth 100000 in
theorem impl_RedoLog.arr (xs : List Int) (hl : xs.length = 64) (h16 : ∀ x ∈ xs, -32768 ≤ x ∧ x ≤ 32767) (s : ByteArray) (P : List S116) (S : List S89) (c : Int) (w : World) (hR : impl_ReadLog.f s = some (P, S, c)) (hok : c = 0 → D_curve P = true ∧ D_steps S) (hT : Tab10 w) :
    Calls Tryz.prog 18 #[.agg (nums .i16 xs).toArray, .string s] w fun e w' => e = .returned (.tuple #[.agg (nums .i16 (D_redo xs P S c).1).toArray, .int .i64 (D_redo xs P S c).2]) ∧ Below w.heap.size w w' := by
  have HX := Aside0.mk hl
  have H16 := Aside0.mk h16
  have HRL := Aside0.mk hR
  have HOK := Aside0.mk hok
  have HTB := Aside0.mk hT
  have hba := arr_below2 w (.cells (nums .i16 xs).toArray 37) (.cells (nums .i16 (zer 64)).toArray 34)
  have HA := Aside0.mk (arr_new2a w 37 .i16 xs (.cells (nums .i16 (zer 64)).toArray 34))
  have HZ := Aside0.mk (arr_new2b w (.cells (nums .i16 xs).toArray 37) 34 .i16 (zer 64))
  have HB := Aside0.mk hba
  clear hl h16 hR hok hT hba
  go_enter Tryz.func18, Tryz.ntmps18
  have HZL := Aside0.mk (zer_len 64)
  go_wp2_with (first | (refine arr_load rfl 37 _ rfl w.heap.size rfl 37 .i16 xs HA.out _ Tryz.underlying37 rfl 64 (by kernel_rfl) HX.out ?_) | (refine arr_load rfl 34 _ rfl (w.heap.size + 1) rfl 34 .i16 (zer 64) HZ.out _ Tryz.underlying34 rfl 64 (by kernel_rfl) HZL.out ?_))
  refine (impl_ValidNegative.arr xs HX.out H16.out _).mono ?_
  rintro e w1 ⟨rfl, hb⟩
  have HA_1 := Aside0.mk (ArrAt.below HA.out hb)
  have HZ_1 := Aside0.mk (ArrAt.below HZ.out hb)
  have HB_1 := Aside0.mk (below_step HB.out hb)
  clear hb HA HZ HB
  by_cases hq : D_dense xs
  · have hdd : decide (D_dense xs) = true := decide_eq_true hq
    have HQ := Aside0.mk hq
    clear hq
    go_wp2_with fail
    refine (impl_ReadLog.calls s P S c _ HRL.out (HTB.out.below HB_1.out)).mono ?_
    rintro e w2 ⟨v_P, v_S, rfl, ho1, ho2, hb⟩
    obtain ⟨A_P, c_P, e_P⟩ := Kd.R_slice ho1
    subst e_P
    have P_r := Aside0.mk (Kd.R_reads' ho1).2.2
    have P_c := Aside0.mk (Kd.R_reads' ho1).2.1
    clear ho1
    obtain ⟨A_S, c_S, e_S⟩ := Kd.R_slice ho2
    subst e_S
    have S_r := Aside0.mk (Kd.R_reads' ho2).2.2
    have S_c := Aside0.mk (Kd.R_reads' ho2).2.1
    clear ho2
    have HA_2 := Aside0.mk (ArrAt.below HA_1.out hb)
    have HZ_2 := Aside0.mk (ArrAt.below HZ_1.out hb)
    have HB_2 := Aside0.mk (below_step HB_1.out hb)
    clear hb HA_1 HZ_1 HB_1
    by_cases hc : c = 0
    · have HE := Aside0.mk (show D_redo xs P S c = (D_from xs P S, 0) from (if_pos HQ.out).trans (if_pos hc))
      have HKK := Aside0.mk (HOK.out hc)
      clear HOK HRL
      subst hc
      go_wp2_with (first | (refine arr_load rfl 37 _ rfl w.heap.size rfl 37 .i16 xs HA_2.out _ Tryz.underlying37 rfl 64 (by kernel_rfl) HX.out ?_) | (refine arr_load rfl 34 _ rfl (w.heap.size + 1) rfl 34 .i16 (zer 64) HZ_2.out _ Tryz.underlying34 rfl 64 (by kernel_rfl) HZL.out ?_))
      refine (impl_printFrom.arr xs HX.out _ _ P _ _ S _ P_r.out P_c.out S_r.out S_c.out HQ.out HKK.out.1 HKK.out.2.1).mono ?_
      rintro e w3 ⟨rfl, hb⟩
      have HA_3 := Aside0.mk (ArrAt.below HA_2.out hb)
      have HZ_3 := Aside0.mk (ArrAt.below HZ_2.out hb)
      have HB_3 := Aside0.mk (below_step HB_2.out hb)
      have P_3 := Aside0.mk (Kd.C_below P_r.out hb)
      have S_3 := Aside0.mk (Kd.C_below S_r.out hb)
      clear hb HA_2 HZ_2 HB_2 P_r S_r
      obtain ⟨Z, hZ⟩ : ∃ Z, Z = D_from xs P S := ⟨_, rfl⟩
      have HL := Aside0.mk (show Z.length = 64 by rw [hZ]; exact D_fromLen xs P S)
      rw [← hZ]
      have HZZ := Aside0.mk hZ
      clear hZ
      go_wp2_with (first | (refine arr_store rfl 34 _ _ rfl (w.heap.size + 1) .i16 Z rfl rfl 34 (zer 64) HZ_3.out 64 (by kernel_rfl) (zer_len 64) HL.out ?_))
      refine bodyPost_ret (results_ct rfl _ _ (w.heap.size + 1) 34 (nums .i16 Z).toArray (0, 0) _ rfl HZ_3.out.row Tryz.underlying34 rfl (by rw [show (Array.size (nums .i16 Z).toArray) = 64 by simp [nums, HL.out]]; kernel_rfl)) rfl ?_
      exact ⟨by rw [HE.out, HZZ.out]; rfl, below_row HB_3.out (by omega) _⟩
    · have hc1 : (c == 0) = false := beq_eq_false_iff_ne.mpr hc
      have hc2 : (c != 0) = true := bne_iff_ne.mpr hc
      have hc3 : decide (c = 0) = false := decide_eq_false hc
      have HE := Aside0.mk (show D_redo xs P S c = (zer 64, c) from (if_pos HQ.out).trans (if_neg hc))
      clear hc
      go_wp2_with (first | (refine arr_store rfl 34 _ _ rfl (w.heap.size + 1) .i16 (zer 64) rfl rfl 34 (zer 64) HZ_2.out 64 (by kernel_rfl) (zer_len 64) (zer_len 64) ?_))
      refine bodyPost_ret (results_ct rfl _ _ (w.heap.size + 1) 34 (nums .i16 (zer 64)).toArray (0, 0) _ rfl HZ_2.out.row Tryz.underlying34 rfl (by rw [show (Array.size (nums .i16 (zer 64)).toArray) = 64 by simp [nums, zer]]; kernel_rfl)) rfl ?_
      exact ⟨by rw [HE.out]; rfl, below_row HB_2.out (by omega) _⟩
  · have hdd : decide (D_dense xs) = false := decide_eq_false hq
    have HE := Aside0.mk (show D_redo xs P S c = (zer 64, 1) from if_neg hq)
    clear hq
    go_wp2_with (first | (refine arr_store rfl 34 _ _ rfl (w.heap.size + 1) .i16 (zer 64) rfl rfl 34 (zer 64) HZ_1.out 64 (by kernel_rfl) (zer_len 64) (zer_len 64) ?_))
    refine bodyPost_ret (results_ct rfl _ _ (w.heap.size + 1) 34 (nums .i16 (zer 64)).toArray (0, 0) _ rfl HZ_1.out.row Tryz.underlying34 rfl (by rw [show (Array.size (nums .i16 (zer 64)).toArray) = 64 by simp [nums, zer]]; kernel_rfl)) rfl ?_
    exact ⟨by rw [HE.out]; rfl, below_row HB_1.out (by omega) _⟩
end Go.Proofs.YtiehbagnebjadaaGreatDoor.Q
