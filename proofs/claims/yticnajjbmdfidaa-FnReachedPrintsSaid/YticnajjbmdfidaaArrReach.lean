-- The law of reached prints.
import Derived.Test.YticnajjbmdfidaaQx4
import Derived.Test.YticnajjbmdfidaaQx5
import Derived.Test.YticnajjbmdfidaaQx9
import Derived.Test.YticnajjbmdfidaaQx10
import Derived.Test.YticnajjbmdfidaaQx11
import Derived.Test.YticnajjbmdfidaaArrCells
import Derived.Test.YticnajjbmdfidaaArrSf
import Derived.Test.YticnajjbmdfidaaArrTLOn
import Derived.Test.YticnajjbmdfidaaArrPLP
import Derived.Test.YticnajjbmdfidaaArrPLQ
import Derived.Test.YticnajjbmdfidaaArrOpen
import Derived.Deep.DeepCutAuto
namespace Go.Proofs.Yticnajjbmdfidaa.Q
open Go.RowKit Go.Proofs.Yticnajjbmdfidaa.PL Go.Proofs.YticnajjbmdfidaaW.PrintWords Go.Proofs.YticnajjbmdfidaaW.PrintLast Go.Proofs.YticnajjbmdfidaaW.PrintMore
attribute [local go_sem] max2_int min2_int max_two min_two max_three min_three max_four min_four
set_option linter.unusedVariables false
set_option linter.unusedSimpArgs false
theorem RP_16 {xs : List Int} (h : ∀ x ∈ xs, 0 ≤ x ∧ x ≤ 400) : ∀ x ∈ xs, -32768 ≤ x ∧ x ≤ 32767 := fun x hx => by have := h x hx; omega
theorem RP_8 {l : List S76} (h : ∀ x ∈ l, 0 ≤ x.f1 ∧ x.f1 ≤ 36) : D_i8s l := fun x hx => by have := h x hx; omega
theorem RP_sameRun (R : List S76) (hR : R.length ≤ 1000000) (e : Nat) : ∀ (k : Nat) (i : Int), 0 ≤ i → i + e = R.length → e < k → spec_SameSteps.l0 k R R i = some true := by
  induction e with
  | zero =>
    intro k i h0 h1 hk
    obtain ⟨k, rfl⟩ : ∃ q, k = q + 1 := ⟨k - 1, by omega⟩
    simp only [spec_SameSteps.l0]
    rw [if_neg (by omega)]
  | succ e ih =>
    intro k i h0 h1 hk
    obtain ⟨k, rfl⟩ : ∃ q, k = q + 1 := ⟨k - 1, by omega⟩
    simp only [spec_SameSteps.l0]
    rw [if_pos (by omega), if_pos h0, if_pos (by omega), if_neg (by simp), show wrap64 (i + 1) = i + 1 by unfold wrap64; omega]
    exact ih k (i + 1) (by omega) (by omega) (by omega)
theorem RP_or {l : List S76} {i : Int} (h0 : 0 ≤ i) : D_orTo l (i + 1).toNat = Go.bits .or .u64 (D_orTo l i.toNat) (rd_T76 l i).f0 := by
  rw [show (i + 1).toNat = i.toNat + 1 by omega]
  simp only [D_orTo]
  rw [show ((i.toNat : Nat) : Int) = i by omega]
theorem RP_two {a b p q : Int} (hp : 0 ≤ p ∧ p ≤ 36) (hq : 0 ≤ q ∧ q ≤ 36) : D_steps [(⟨a, p⟩ : S76), ⟨b, q⟩] := by
  refine ⟨fun x hx => ?_, by simp⟩
  simp only [List.mem_cons, List.not_mem_nil, or_false] at hx
  rcases hx with rfl | rfl
  · exact hp
  · exact hq
theorem eq_t64 (xs : List Int) (hl : xs.length = 64) (w : World) : (Op.equalIn 10000 24 (.agg (nums .i64 xs).toArray) (.agg (nums .i64 xs).toArray)).run Try.prog w = .ok true w := by
  obtain ⟨i, hi⟩ := info_of_underlying Try.underlying2
  exact run_eqArr Try.underlying24 hi (by kernel_rfl) Try.isAgg2 Try.underlying2 xs hl w
theorem RP_same (R : List S76) (hR : R.length ≤ 1000000) : spec_SameSteps.f (R.length + 1) R R = some true := by
  unfold spec_SameSteps.f
  rw [if_pos rfl]
  exact RP_sameRun R hR R.length _ 0 (by omega) (by omega) (by omega)
set_option maxHeartbeats 8000000 in
set_option maxRecDepth 100000 in
theorem laws_FnReachedPrints.walk (A0 : Option Addr) (c0 : Nat) (l0 : List Int) (A1 : Option Addr) (c1 : Nat) (l1 : List Int) (w : World) (hr0 : Kd.C (Kd.int .u8) w A0 l0.length l0) (hc0 : l0.length ≤ c0) (hs0 : ∀ x ∈ l0, 0 ≤ x ∧ x ≤ 255) (hr1 : Kd.C (Kd.int .u8) w A1 l1.length l1) (hc1 : l1.length ≤ c1) (hs1 : ∀ x ∈ l1, 0 ≤ x ∧ x ≤ 255) (hf0 : l0.length ≤ 4096) (hf1 : l1.length ≤ 4096) :
    Calls Try.prog 9 #[.slice A0 l0.length c0, .slice A1 l1.length c1] w fun e w' => e = .returned (.bool true) ∧ Below w.heap.size w w' := by
  have HC0 := Aside0.mk hc0
  have HC1 := Aside0.mk hc1
  have HS0 := Aside0.mk hs0
  have HS1 := Aside0.mk hs1
  have HR0 := Aside0.mk hr0
  have HR1 := Aside0.mk hr1
  have HB := Aside0.mk (Below.refl w.heap.size w)
  have HF0 := Aside0.mk (show laws_f6big.f l0 = some false by unfold laws_f6big.f; rw [decide_eq_false (by omega)])
  have HF1 := Aside0.mk (show laws_f6big.f l1 = some false by unfold laws_f6big.f; rw [decide_eq_false (by omega)])
  obtain ⟨P, hP, hPc, hPi, hPl⟩ := L_paperDrawn hs1 (n := 300) (by omega)
  obtain ⟨S, hS, hSl, hSx⟩ := L_p6Steps hs0 (n := 300) (by omega)
  have HP := Aside0.mk hP
  have HPC := Aside0.mk hPc
  have HPI := Aside0.mk hPi
  have HPL := Aside0.mk (show P.length ≤ 140737488351232 by omega)
  have HSS := Aside0.mk hS
  have HSL := Aside0.mk hSl
  have HSX := Aside0.mk hSx
  have HS8 := Aside0.mk (show D_i8s S from fun x hx => by have := hSx x hx; omega)
  have HSN := Aside0.mk (show S.length ≤ 140737488351232 by omega)
  clear hP hPc hPi hPl hS hSl hSx hr0 hc0 hs0 hr1 hc1 hs1 hf0 hf1
  go_enter Try.func9, Try.ntmps9
  go_wp2_with fail
  refine (laws_f6big.calls _ _ l0 false _ (Kd.C_below HR0.out HB.out) HC0.out HF0.out).mono ?_
  rintro e w1 ⟨rfl, hb⟩
  have HB_1 := Aside0.mk (below_step HB.out hb.below)
  clear hb HB
  go_wp2_with fail
  refine (laws_f6big.calls _ _ l1 false _ (Kd.C_below HR1.out HB_1.out) HC1.out HF1.out).mono ?_
  rintro e w2 ⟨rfl, hb⟩
  have HB_2 := Aside0.mk (below_step HB_1.out hb.below)
  clear hb HB_1
  go_wp2_with fail
  refine (spec_P6Negative.arr _ _ l0 _ (Kd.C_below HR0.out HB_2.out) HC0.out HS0.out).mono ?_
  rintro e w3 ⟨xs, rfl, hxl, hxa, hb⟩
  have HX := Aside0.mk hxl
  have HXA := Aside0.mk hxa
  have hTd : D_dense (D_from xs P S) := D_fromDense hxa hxl HPC.out S
  obtain ⟨DU, hdu, hds, hdi, hda, hdp⟩ := L_reached (xs := xs) (l := P) (st := S) hxa hxl HPC.out hTd HSL.out (fun x hx => (HSX.out x hx).2)
  have hpf : D_printFrom xs P S = (D_from xs P S, 0) := if_pos ⟨hxa, HPC.out, ⟨fun x hx => by have := (HSX.out x hx).2; omega, by have := HSL.out; omega⟩⟩
  have hpd : D_printFrom xs P DU = (D_from xs P DU, 0) := if_pos ⟨hxa, HPC.out, hds⟩
  have hTl := D_fromLen xs P S
  have hpl := D_fromLen xs P DU
  obtain ⟨T, hT⟩ : ∃ T, T = D_from xs P S := ⟨_, rfl⟩
  rw [← hT] at hTd hdu hdi hdp hpf hTl
  obtain ⟨PD, hPD⟩ : ∃ PD, PD = D_from xs P DU := ⟨_, rfl⟩
  rw [← hPD] at hdp hpd hpl
  have HTD := Aside0.mk hTd
  have HTL := Aside0.mk hTl
  have HDU := Aside0.mk hdu
  have HDS := Aside0.mk hds
  have HDI := Aside0.mk hdi
  have HDA := Aside0.mk hda
  have HDP := Aside0.mk hdp
  have HPF := Aside0.mk hpf
  have HPD := Aside0.mk hpd
  have HPDL := Aside0.mk hpl
  have HD8 := Aside0.mk (RP_8 hds.1)
  have HDN := Aside0.mk (show DU.length ≤ 140737488351232 by have := hds.2; omega)
  have HSM := Aside0.mk (RP_same DU (by have := hds.2; omega))
  clear hxl hxa hTd hdu hds hdi hda hdp hpf hpd hTl hpl hT hPD
  have HB_3 := Aside0.mk (below_step HB_2.out hb)
  clear hb HB_2
  have N_n := Aside0.mk (ArrAt.new w3 42 .i16 (zer 64))
  have N_0 := Aside0.mk (N_n.out.row (ys := xs))
  have hba := below_row (below_alloc (Below.refl w3.heap.size w3) (.cells (nums .i16 (zer 64)).toArray 42)) (Nat.le_refl w3.heap.size) (nums .i16 xs).toArray
  have HB_4 := Aside0.mk (below_step HB_3.out hba)
  clear hba HB_3
  go_wp2_with (first | (refine arr_store rfl 42 _ _ rfl w3.heap.size .i16 xs rfl rfl 42 (zer 64) N_n.out 64 (by kernel_rfl) (zer_len 64) HX.out ?_))
  refine (spec_P6Paper.calls 300 _ _ l1 P _ (Kd.C_below HR1.out HB_4.out) HC1.out HP.out).mono ?_
  rintro e w5 ⟨v_P, rfl, ho, hb⟩
  obtain ⟨A_P, c_P, e_P⟩ := Kd.R_slice ho
  subst e_P
  have P_r := Aside0.mk (Kd.R_reads' ho).2.2
  have P_c := Aside0.mk (Kd.R_reads' ho).2.1
  clear ho
  have HB_5 := Aside0.mk (below_step HB_4.out hb)
  have N_5 := Aside0.mk (ArrAt.below N_0.out hb)
  clear hb HB_4 N_0
  go_wp2_with fail
  refine (spec_P6Steps.calls 300 _ _ l0 S _ (Kd.C_below HR0.out HB_5.out) HC0.out HSS.out).mono ?_
  rintro e w6 ⟨v_S, rfl, ho, hb⟩
  obtain ⟨A_S, c_S, e_S⟩ := Kd.R_slice ho
  subst e_S
  have S_r := Aside0.mk (Kd.R_reads' ho).2.2
  have S_c := Aside0.mk (Kd.R_reads' ho).2.1
  clear ho
  have HB_6 := Aside0.mk (below_step HB_5.out hb)
  have N_6 := Aside0.mk (ArrAt.below N_5.out hb)
  have P_6 := Aside0.mk (Kd.C_below P_r.out hb)
  clear hb HB_5 N_5 P_r
  go_wp2_with (first | (refine arr_load rfl 42 _ rfl w3.heap.size rfl 42 .i16 xs N_6.out _ Try.underlying42 rfl 64 (by kernel_rfl) HX.out ?_))
  refine (spec_PrintFrom.arr xs HX.out (RP_16 HXA.out) _ _ P _ _ S _ P_6.out P_c.out S_r.out S_c.out HPI.out HPL.out HS8.out HSN.out).mono ?_
  rintro e w7 ⟨rfl, hb⟩
  rw [HPF.out]
  have HB_7 := Aside0.mk (below_step HB_6.out hb)
  have N_7 := Aside0.mk (ArrAt.below N_6.out hb)
  have P_7 := Aside0.mk (Kd.C_below P_6.out hb)
  have S_7 := Aside0.mk (Kd.C_below S_r.out hb)
  clear hb HB_6 N_6 P_6 S_r
  have T_n := Aside0.mk (ArrAt.new w7 39 .i16 (zer 64))
  have T_0 := Aside0.mk (T_n.out.row (ys := T))
  have hba := below_row (below_alloc (Below.refl w7.heap.size w7) (.cells (nums .i16 (zer 64)).toArray 39)) (Nat.le_refl w7.heap.size) (nums .i16 T).toArray
  have HB_8 := Aside0.mk (below_step HB_7.out hba)
  have N_8 := Aside0.mk (ArrAt.below N_7.out hba)
  have P_8 := Aside0.mk (Kd.C_below P_7.out hba)
  have S_8 := Aside0.mk (Kd.C_below S_7.out hba)
  clear hba HB_7 N_7 P_7 S_7
  go_wp2_with (first | (refine arr_store rfl 39 _ _ rfl w7.heap.size .i16 T rfl rfl 39 (zer 64) T_n.out 64 (by kernel_rfl) (zer_len 64) HTL.out ?_) | (refine arr_load rfl 42 _ rfl w3.heap.size rfl 42 .i16 xs N_8.out _ Try.underlying42 rfl 64 (by kernel_rfl) HX.out ?_) | (refine arr_load rfl 39 _ rfl w7.heap.size rfl 39 .i16 T T_0.out _ Try.underlying39 rfl 64 (by kernel_rfl) HTL.out ?_))
  refine (impl_StepsFor.arr xs HX.out (RP_16 HXA.out) _ _ P T HTL.out (RP_16 HTD.out) _ P_8.out P_c.out HPI.out HPL.out).mono ?_
  rintro e w9 ⟨v_M, rfl, ho, hb⟩
  rw [HDU.out] at ho ⊢
  dsimp only at ho
  obtain ⟨A_M, c_M, e_M⟩ := Kd.R_slice ho
  subst e_M
  have M_r := Aside0.mk (Kd.R_reads' ho).2.2
  have M_c := Aside0.mk (Kd.R_reads' ho).2.1
  clear ho
  have HB_9 := Aside0.mk (below_step HB_8.out hb)
  have N_9 := Aside0.mk (ArrAt.below N_8.out hb)
  have P_9 := Aside0.mk (Kd.C_below P_8.out hb)
  have S_9 := Aside0.mk (Kd.C_below S_8.out hb)
  have T_9 := Aside0.mk (ArrAt.below T_0.out hb)
  clear hb HB_8 N_8 P_8 S_8 T_0
  go_wp2_with (first | (refine arr_load rfl 42 _ rfl w3.heap.size rfl 42 .i16 xs N_9.out _ Try.underlying42 rfl 64 (by kernel_rfl) HX.out ?_) | (refine arr_load rfl 39 _ rfl w7.heap.size rfl 39 .i16 T T_9.out _ Try.underlying39 rfl 64 (by kernel_rfl) HTL.out ?_))
  refine (spec_StepsFor.arr xs HX.out (RP_16 HXA.out) _ _ P T HTL.out (RP_16 HTD.out) _ P_9.out P_c.out HPI.out HPL.out).mono ?_
  rintro e w10 ⟨v_D, rfl, ho, hb⟩
  rw [HDU.out] at ho ⊢
  dsimp only at ho
  obtain ⟨A_D, c_D, e_D⟩ := Kd.R_slice ho
  subst e_D
  have D_r := Aside0.mk (Kd.R_reads' ho).2.2
  have D_c := Aside0.mk (Kd.R_reads' ho).2.1
  clear ho
  have HB_10 := Aside0.mk (below_step HB_9.out hb)
  have N_10 := Aside0.mk (ArrAt.below N_9.out hb)
  have P_10 := Aside0.mk (Kd.C_below P_9.out hb)
  have S_10 := Aside0.mk (Kd.C_below S_9.out hb)
  have T_10 := Aside0.mk (ArrAt.below T_9.out hb)
  have M_10 := Aside0.mk (Kd.C_below M_r.out hb)
  clear hb HB_9 N_9 P_9 S_9 T_9 M_r
  go_wp2_with fail
  refine (spec_SameSteps.calls _ _ _ DU _ _ DU true _ M_10.out M_c.out D_r.out D_c.out HSM.out).mono ?_
  rintro e w11 ⟨rfl, hb⟩
  have HB_11 := Aside0.mk (below_step HB_10.out hb.below)
  have N_11 := Aside0.mk (ArrAt.below N_10.out hb.below)
  have P_11 := Aside0.mk (Kd.C_below P_10.out hb.below)
  have S_11 := Aside0.mk (Kd.C_below S_10.out hb.below)
  have T_11 := Aside0.mk (ArrAt.below T_10.out hb.below)
  have M_11 := Aside0.mk (Kd.C_below M_10.out hb.below)
  have D_11 := Aside0.mk (Kd.C_below D_r.out hb.below)
  clear hb HB_10 N_10 P_10 S_10 T_10 M_10 D_r
  go_upto_if 100 with fail
  go_cut [] (fun wc => Aside0 (Kd.C k76 wc A_S S.length S) ∧ Aside0 (Below w.heap.size w wc))
  case first =>
    as_aux_lemma =>
    have HPOSI := Aside0.mk (show (D_orTo DU DU.length) = 18446744073709551615 from HDA.out)
    go_wp2_with (first | (refine arr_load rfl 42 _ rfl w3.heap.size rfl 42 .i16 xs N_11.out _ Try.underlying42 rfl 64 (by kernel_rfl) HX.out ?_) | (refine arr_load rfl 39 _ rfl w7.heap.size rfl 39 .i16 T T_11.out _ Try.underlying39 rfl 64 (by kernel_rfl) HTL.out ?_))
    refine (impl_PrintFrom.arr xs HX.out (RP_16 HXA.out) _ _ P _ _ DU _ P_11.out P_c.out D_11.out D_c.out HPI.out HPL.out HD8.out HDN.out).mono ?_
    rintro e w12 ⟨rfl, hb⟩
    rw [HPD.out]
    have HB_12 := Aside0.mk (below_step HB_11.out hb)
    have N_12 := Aside0.mk (ArrAt.below N_11.out hb)
    have P_12 := Aside0.mk (Kd.C_below P_11.out hb)
    have S_12 := Aside0.mk (Kd.C_below S_11.out hb)
    have T_12 := Aside0.mk (ArrAt.below T_11.out hb)
    have D_12 := Aside0.mk (Kd.C_below D_11.out hb)
    clear hb HB_11 N_11 P_11 S_11 T_11 D_11
    have WE : w12 = w12 := rfl
    clear WE
    have Pd_n := Aside0.mk (ArrAt.new w12 39 .i16 (zer 64))
    have Pd_0 := Aside0.mk (Pd_n.out.row (ys := PD))
    have hba := below_row (below_alloc (Below.refl w12.heap.size w12) (.cells (nums .i16 (zer 64)).toArray 39)) (Nat.le_refl w12.heap.size) (nums .i16 PD).toArray
    have HB_13 := Aside0.mk (below_step HB_12.out hba)
    have N_13 := Aside0.mk (ArrAt.below N_12.out hba)
    have P_13 := Aside0.mk (Kd.C_below P_12.out hba)
    have S_13 := Aside0.mk (Kd.C_below S_12.out hba)
    have T_13 := Aside0.mk (ArrAt.below T_12.out hba)
    have D_13 := Aside0.mk (Kd.C_below D_12.out hba)
    clear hba HB_12 N_12 P_12 S_12 T_12 D_12
    go_wp2_with (first | (refine arr_store rfl 39 _ _ rfl w12.heap.size .i16 PD rfl rfl 39 (zer 64) Pd_n.out 64 (by kernel_rfl) (zer_len 64) HPDL.out ?_) | (refine arr_load rfl 42 _ rfl w3.heap.size rfl 42 .i16 xs N_13.out _ Try.underlying42 rfl 64 (by kernel_rfl) HX.out ?_) | (refine arr_load rfl 39 _ rfl w7.heap.size rfl 39 .i16 T T_13.out _ Try.underlying39 rfl 64 (by kernel_rfl) HTL.out ?_) | (refine arr_load rfl 39 _ rfl w12.heap.size rfl 39 .i16 PD Pd_0.out _ Try.underlying39 rfl 64 (by kernel_rfl) HPDL.out ?_))
    go_loopg [16, 17] DU.length (fun kq v16 v17 w' => ∃ (a i : Int) (W : World), W = w' ∧ v16 = .int .u64 a ∧ v17 = .int .i64 i ∧ Aside0 (0 ≤ i ∧ i + kq = DU.length) ∧ Aside0 (a = D_orTo DU i.toNat) ∧ Aside0 (ArrAt W w3.heap.size 42 .i16 xs) ∧ Aside0 (ArrAt W w7.heap.size 39 .i16 T) ∧ Aside0 (ArrAt W w12.heap.size 39 .i16 PD) ∧ Aside0 (Kd.C k91 W A_P P.length P) ∧ Aside0 (Kd.C k76 W A_S S.length S) ∧ Aside0 (Kd.C k76 W A_D DU.length DU) ∧ Aside0 (Below w.heap.size w W))
    case atStart => exact ⟨0, 0, _, rfl, rfl, rfl, ⟨by omega⟩, ⟨rfl⟩, N_13, T_13, Pd_0, P_13, S_13, D_13, HB_13⟩
    case round =>
      as_aux_lemma =>
      clear HB_13 N_13 P_13 S_13 T_13 D_13 Pd_0
      obtain ⟨a, i, W, rfl, rfl, rfl, HI, HA, HN, HT, HPd, HC_P, HC_S, HC_D, HB⟩ := hrel
      cases gk with
      | succ k1 =>
        have h0 : 0 ≤ i := HI.out.1
        have hlt : i < (DU.length : Int) := by have := HI.out; omega
        have HH0 := Aside0.mk h0
        have HLT := Aside0.mk hlt
        have hdec : decide (i < (DU.length : Int)) = true := decide_eq_true hlt
        have hwi : wrap64 (i + 1) = i + 1 := by have := HDS.out.2; unfold wrap64; omega
        have hq := HDI.out i h0 hlt
        obtain ⟨x, hx⟩ : ∃ x, x = rd_T76 DU i := ⟨_, rfl⟩
        rw [← hx] at hq
        have HXX := Aside0.mk hx
        obtain ⟨m, t⟩ := x
        dsimp only at hq
        obtain ⟨⟨k0, k1_, k2⟩, ka, kr, kl⟩ := hq
        have HKL := Aside0.mk kl
        have HK0 := Aside0.mk k0
        have HKR := Aside0.mk kr
        have HT0 := Aside0.mk (show 0 ≤ t ∧ t ≤ 36 from ⟨k1_, k2⟩)
        have HOR := Aside0.mk (show Go.bits .or .u64 a m = D_orTo DU (i + 1).toNat by rw [RP_or h0, ← hx, HA.out])
        have HKA := Aside0.mk (show Go.bits .and .u64 a m = 0 by rw [HA.out]; exact ka)
        obtain ⟨ad, e0, hm0, ht0⟩ := at_T76 HC_D.out i h0 hlt
        cases e0
        rw [← hx] at hm0 ht0
        dsimp only at hm0 ht0
        clear kl k0 k1_ k2 ka kr hx h0 hlt
        go_upto_region 17 with fail
        go_cut [147] (fun v1 wc => v1 = .bool false ∧ Aside0 (ArrAt wc w3.heap.size 42 .i16 xs) ∧ Aside0 (ArrAt wc w7.heap.size 39 .i16 T) ∧ Aside0 (ArrAt wc w12.heap.size 39 .i16 PD) ∧ Aside0 (Kd.C k91 wc A_P P.length P) ∧ Aside0 (Kd.C k76 wc A_S S.length S) ∧ Aside0 (Kd.C k76 wc (some ad) DU.length DU) ∧ Aside0 (Below w.heap.size w wc))
        case first =>
          as_aux_lemma =>
          have t0 : (m == 0) = false := beq_eq_false_iff_ne.mpr HK0.out
          have t1 : (Go.bits .and .u64 a m != 0) = false := by rw [HKA.out]; rfl
          by_cases hi : 0 < i
          · have h3 : decide (0 < i) = true := decide_eq_true hi
            have h0 := HH0.out
            have hlt := HLT.out
            have kr := HKR.out hi
            obtain ⟨ji, hji⟩ : ∃ j_ : Int, wrap64 (i - 1) = j_ := ⟨_, rfl⟩
            have ej : i - 1 = ji := by rw [← hji]; have := HDS.out.2; unfold wrap64; omega
            have hj0 : 0 ≤ ji := by omega
            have hj1 : ji < (DU.length : Int) := by omega
            obtain ⟨ad2, e2, _, ht1⟩ := at_T76 HC_D.out ji hj0 hj1
            cases e2
            rw [ej] at kr
            obtain ⟨q, hq⟩ : ∃ q, q = rd_T76 DU ji := ⟨_, rfl⟩
            rw [← hq] at ht1 kr
            obtain ⟨qm, qt⟩ := q
            dsimp only at ht1 kr
            have t2 : decide (t ≤ qt) = false := decide_eq_false (by omega)
            clear kr hq ej hi
            have hji7w : IntKind.i64.wrap (i - 1) = ji := (i64_w _).trans hji
            go_wp2_with fail
            refine wp_region_held_drew (S := fun w' => w'.cell? (ad.add (i.toNat * 2)) = some (.int .u64 m) ∧ w'.cell? ⟨(ad.add (i.toNat * 2)).block, (ad.add (i.toNat * 2)).off + 1, none⟩ = some (.int .i8 t) ∧ w'.cell? ⟨(ad.add (ji.toNat * 2)).block, (ad.add (ji.toNat * 2)).off + 1, none⟩ = some (.int .i8 qt)) (by kernel_rfl) ⟨by simpa using hm0, by simpa using ht0, by simpa using ht1⟩ (fun hHeld => ?_)
            refine wpAnyH_take (i := 0) (v := ?_) rfl (by kernel_rfl) (by kernel_rfl) (by kernel_rfl) (fun _ _ _ h => h) (Or.inl ⟨by rfl, ?_⟩) (by assumption) ?_
            rotate_left
            · intro w hSw
              go_simp
              with_reducible rfl
            try simp only [List.getElem_toArray, List.getElem_cons_succ, List.getElem_cons_zero, Act.put, List.setIfInBounds_toArray, List.set_cons_zero, List.set_cons_succ]
            refine wpAnyH_take (i := 1) (v := ?_) rfl (by kernel_rfl) (by kernel_rfl) (by kernel_rfl) (fun _ _ _ h => h) (Or.inl ⟨by rfl, ?_⟩) (by assumption) ?_
            rotate_left
            · intro w hSw
              go_simp
              with_reducible rfl
            try simp only [List.getElem_toArray, List.getElem_cons_succ, List.getElem_cons_zero, Act.put, List.setIfInBounds_toArray, List.set_cons_zero, List.set_cons_succ]
            refine wpAnyH_take (i := 2) (v := ?_) rfl (by kernel_rfl) (by kernel_rfl) (by kernel_rfl) (fun _ _ _ h => h) (Or.inl ⟨by rfl, ?_⟩) (by assumption) ?_
            rotate_left
            · intro w hSw
              go_simp
              with_reducible rfl
            try simp only [List.getElem_toArray, List.getElem_cons_succ, List.getElem_cons_zero, Act.put, List.setIfInBounds_toArray, List.set_cons_zero, List.set_cons_succ]
            refine wpAnyH_take (i := 3) (v := ?_) rfl (by kernel_rfl) (by kernel_rfl) (by kernel_rfl) (fun _ _ _ h => h) (Or.inl ⟨by rfl, ?_⟩) (by assumption) ?_
            rotate_left
            · intro w hSw
              go_simp
              with_reducible rfl
            try simp only [List.getElem_toArray, List.getElem_cons_succ, List.getElem_cons_zero, Act.put, List.setIfInBounds_toArray, List.set_cons_zero, List.set_cons_succ]
            refine wpAnyH_take (i := 4) (v := ?_) rfl (by kernel_rfl) (by kernel_rfl) (by kernel_rfl) (fun _ _ _ h => h) (Or.inl ⟨by rfl, ?_⟩) (by assumption) ?_
            rotate_left
            · intro w hSw
              go_simp
              with_reducible rfl
            try simp only [List.getElem_toArray, List.getElem_cons_succ, List.getElem_cons_zero, Act.put, List.setIfInBounds_toArray, List.set_cons_zero, List.set_cons_succ]
            refine wpAnyH_take (i := 5) (v := ?_) rfl (by kernel_rfl) (by kernel_rfl) (by kernel_rfl) (fun _ _ _ h => h) (Or.inl ⟨by rfl, ?_⟩) (by assumption) ?_
            rotate_left
            · intro w hSw
              go_simp
              with_reducible rfl
            try simp only [List.getElem_toArray, List.getElem_cons_succ, List.getElem_cons_zero, Act.put, List.setIfInBounds_toArray, List.set_cons_zero, List.set_cons_succ]
            refine wpAnyH_take (i := 6) (v := ?_) rfl (by kernel_rfl) (by kernel_rfl) (by kernel_rfl) (fun _ _ _ h => h) (Or.inl ⟨by rfl, ?_⟩) (by assumption) ?_
            rotate_left
            · intro w hSw
              go_simp
              with_reducible rfl
            try simp only [List.getElem_toArray, List.getElem_cons_succ, List.getElem_cons_zero, Act.put, List.setIfInBounds_toArray, List.set_cons_zero, List.set_cons_succ]
            refine wpAnyH_take (i := 7) (v := ?_) rfl (by kernel_rfl) (by kernel_rfl) (by kernel_rfl) (fun _ _ _ h => h) (Or.inl ⟨by rfl, ?_⟩) (by assumption) ?_
            rotate_left
            · intro w hSw
              go_simp
              with_reducible rfl
            try simp only [List.getElem_toArray, List.getElem_cons_succ, List.getElem_cons_zero, Act.put, List.setIfInBounds_toArray, List.set_cons_zero, List.set_cons_succ]
            refine wpAnyH_take (i := 8) (v := ?_) rfl (by kernel_rfl) (by kernel_rfl) (by kernel_rfl) (fun _ _ _ h => h) (Or.inl ⟨by rfl, ?_⟩) (by assumption) ?_
            rotate_left
            · intro w hSw
              go_simp
              with_reducible rfl
            try simp only [List.getElem_toArray, List.getElem_cons_succ, List.getElem_cons_zero, Act.put, List.setIfInBounds_toArray, List.set_cons_zero, List.set_cons_succ]
            refine wpAnyH_take (i := 9) (v := ?_) rfl (by kernel_rfl) (by kernel_rfl) (by kernel_rfl) (fun _ _ _ h => h) (Or.inl ⟨by rfl, ?_⟩) (by assumption) ?_
            rotate_left
            · intro w hSw
              go_simp
              with_reducible rfl
            try simp only [List.getElem_toArray, List.getElem_cons_succ, List.getElem_cons_zero, Act.put, List.setIfInBounds_toArray, List.set_cons_zero, List.set_cons_succ]
            refine wpAnyH_take (i := 10) (v := ?_) rfl (by kernel_rfl) (by kernel_rfl) (by kernel_rfl) (fun _ _ _ h => h) (Or.inl ⟨by rfl, ?_⟩) (by assumption) ?_
            rotate_left
            · intro w hSw
              go_simp
              with_reducible rfl
            try simp only [List.getElem_toArray, List.getElem_cons_succ, List.getElem_cons_zero, Act.put, List.setIfInBounds_toArray, List.set_cons_zero, List.set_cons_succ]
            refine wpAnyH_take (i := 11) (v := ?_) rfl (by kernel_rfl) (by kernel_rfl) (by kernel_rfl) (fun _ _ _ h => h) (Or.inl ⟨by rfl, ?_⟩) (by assumption) ?_
            rotate_left
            · intro w hSw
              go_simp
              with_reducible rfl
            try simp only [List.getElem_toArray, List.getElem_cons_succ, List.getElem_cons_zero, Act.put, List.setIfInBounds_toArray, List.set_cons_zero, List.set_cons_succ]
            refine wpAnyH_take (i := 12) (v := ?_) rfl (by kernel_rfl) (by kernel_rfl) (by kernel_rfl) (fun _ _ _ h => h) (Or.inl ⟨by rfl, ?_⟩) (by assumption) ?_
            rotate_left
            · intro w hSw
              go_simp
              with_reducible rfl
            try simp only [List.getElem_toArray, List.getElem_cons_succ, List.getElem_cons_zero, Act.put, List.setIfInBounds_toArray, List.set_cons_zero, List.set_cons_succ]
            refine wpAnyH_take (i := 13) (v := ?_) rfl (by kernel_rfl) (by kernel_rfl) (by kernel_rfl) (fun _ _ _ h => h) (Or.inl ⟨by rfl, ?_⟩) (by assumption) ?_
            rotate_left
            · intro w hSw
              go_simp
              with_reducible rfl
            try simp only [List.getElem_toArray, List.getElem_cons_succ, List.getElem_cons_zero, Act.put, List.setIfInBounds_toArray, List.set_cons_zero, List.set_cons_succ]
            refine wpAnyH_take (i := 14) (v := ?_) rfl (by kernel_rfl) (by kernel_rfl) (by kernel_rfl) (fun _ _ _ h => h) (Or.inl ⟨by rfl, ?_⟩) (by assumption) ?_
            rotate_left
            · intro w hSw
              go_simp
              with_reducible rfl
            try simp only [List.getElem_toArray, List.getElem_cons_succ, List.getElem_cons_zero, Act.put, List.setIfInBounds_toArray, List.set_cons_zero, List.set_cons_succ]
            refine wpAnyH_take (i := 15) (v := ?_) rfl (by kernel_rfl) (by kernel_rfl) (by kernel_rfl) (fun _ _ _ h => h) (Or.inl ⟨by rfl, ?_⟩) (by assumption) ?_
            rotate_left
            · intro w hSw
              go_simp
              with_reducible rfl
            try simp only [List.getElem_toArray, List.getElem_cons_succ, List.getElem_cons_zero, Act.put, List.setIfInBounds_toArray, List.set_cons_zero, List.set_cons_succ]
            refine wpAnyH_take (i := 16) (v := ?_) rfl (by kernel_rfl) (by kernel_rfl) (by kernel_rfl) (fun _ _ _ h => h) (Or.inl ⟨by rfl, ?_⟩) (by assumption) ?_
            rotate_left
            · intro w hSw
              go_simp
              with_reducible rfl
            try simp only [List.getElem_toArray, List.getElem_cons_succ, List.getElem_cons_zero, Act.put, List.setIfInBounds_toArray, List.set_cons_zero, List.set_cons_succ]
            refine wpAnyH_take (i := 17) (v := ?_) rfl (by kernel_rfl) (by kernel_rfl) (by kernel_rfl) (fun _ _ _ h => h) (Or.inl ⟨by rfl, ?_⟩) (by assumption) ?_
            rotate_left
            · intro w hSw
              go_simp
              with_reducible rfl
            try simp only [List.getElem_toArray, List.getElem_cons_succ, List.getElem_cons_zero, Act.put, List.setIfInBounds_toArray, List.set_cons_zero, List.set_cons_succ]
            refine wpAnyH_take (i := 18) (v := ?_) rfl (by kernel_rfl) (by kernel_rfl) (by kernel_rfl) (fun _ _ _ h => h) (Or.inl ⟨by rfl, ?_⟩) (by assumption) ?_
            rotate_left
            · intro w hSw
              go_simp
              with_reducible rfl
            try simp only [List.getElem_toArray, List.getElem_cons_succ, List.getElem_cons_zero, Act.put, List.setIfInBounds_toArray, List.set_cons_zero, List.set_cons_succ]
            refine wpAnyH_take (i := 19) (v := ?_) rfl (by kernel_rfl) (by kernel_rfl) (by kernel_rfl) (fun _ _ _ h => h) (Or.inl ⟨by rfl, ?_⟩) (by assumption) ?_
            rotate_left
            · intro w hSw
              go_simp
              with_reducible rfl
            try simp only [List.getElem_toArray, List.getElem_cons_succ, List.getElem_cons_zero, Act.put, List.setIfInBounds_toArray, List.set_cons_zero, List.set_cons_succ]
            refine wpAnyH_take (i := 20) (v := ?_) rfl (by kernel_rfl) (by kernel_rfl) (by kernel_rfl) (fun _ _ _ h => h) (Or.inl ⟨by rfl, ?_⟩) (by assumption) ?_
            rotate_left
            · intro w hSw
              go_simp
              with_reducible rfl
            try simp only [List.getElem_toArray, List.getElem_cons_succ, List.getElem_cons_zero, Act.put, List.setIfInBounds_toArray, List.set_cons_zero, List.set_cons_succ]
            refine wpAnyH_take (i := 21) (v := ?_) rfl (by kernel_rfl) (by kernel_rfl) (by kernel_rfl) (fun _ _ _ h => h) (Or.inl ⟨by rfl, ?_⟩) (by assumption) ?_
            rotate_left
            · intro w hSw
              go_simp
              with_reducible rfl
            try simp only [List.getElem_toArray, List.getElem_cons_succ, List.getElem_cons_zero, Act.put, List.setIfInBounds_toArray, List.set_cons_zero, List.set_cons_succ]
            refine wpAnyH_take (i := 22) (v := ?_) rfl (by kernel_rfl) (by kernel_rfl) (by kernel_rfl) (fun _ _ _ h => h) (Or.inl ⟨by rfl, ?_⟩) (by assumption) ?_
            rotate_left
            · intro w hSw
              go_simp
              with_reducible rfl
            try simp only [List.getElem_toArray, List.getElem_cons_succ, List.getElem_cons_zero, Act.put, List.setIfInBounds_toArray, List.set_cons_zero, List.set_cons_succ]
            refine wpAnyH_take (i := 23) (v := ?_) rfl (by kernel_rfl) (by kernel_rfl) (by kernel_rfl) (fun _ _ _ h => h) (Or.inl ⟨by rfl, ?_⟩) (by assumption) ?_
            rotate_left
            · intro w hSw
              go_simp
              with_reducible rfl
            try simp only [List.getElem_toArray, List.getElem_cons_succ, List.getElem_cons_zero, Act.put, List.setIfInBounds_toArray, List.set_cons_zero, List.set_cons_succ]
            refine wpAnyH_take (i := 24) (v := ?_) rfl (by kernel_rfl) (by kernel_rfl) (by kernel_rfl) (fun _ _ _ h => h) (Or.inl ⟨by rfl, ?_⟩) (by assumption) ?_
            rotate_left
            · intro w hSw
              go_simp
              with_reducible rfl
            try simp only [List.getElem_toArray, List.getElem_cons_succ, List.getElem_cons_zero, Act.put, List.setIfInBounds_toArray, List.set_cons_zero, List.set_cons_succ]
            refine wpAnyH_take (i := 25) (v := ?_) rfl (by kernel_rfl) (by kernel_rfl) (by kernel_rfl) (fun _ _ _ h => h) (Or.inl ⟨by rfl, ?_⟩) (by assumption) ?_
            rotate_left
            · intro w hSw
              go_simp
              with_reducible rfl
            try simp only [List.getElem_toArray, List.getElem_cons_succ, List.getElem_cons_zero, Act.put, List.setIfInBounds_toArray, List.set_cons_zero, List.set_cons_succ]
            refine wpAnyH_take (i := 26) (v := ?_) rfl (by kernel_rfl) (by kernel_rfl) (by kernel_rfl) (fun _ _ _ h => h) (Or.inl ⟨by rfl, ?_⟩) (by assumption) ?_
            rotate_left
            · intro w hSw
              go_simp
              with_reducible rfl
            try simp only [List.getElem_toArray, List.getElem_cons_succ, List.getElem_cons_zero, Act.put, List.setIfInBounds_toArray, List.set_cons_zero, List.set_cons_succ]
            refine wpAnyH_take (i := 27) (v := ?_) rfl (by kernel_rfl) (by kernel_rfl) (by kernel_rfl) (fun _ _ _ h => h) (Or.inl ⟨by rfl, ?_⟩) (by assumption) ?_
            rotate_left
            · intro w hSw
              go_simp
              with_reducible rfl
            try simp only [List.getElem_toArray, List.getElem_cons_succ, List.getElem_cons_zero, Act.put, List.setIfInBounds_toArray, List.set_cons_zero, List.set_cons_succ]
            refine wpAnyH_take (i := 28) (v := ?_) rfl (by kernel_rfl) (by kernel_rfl) (by kernel_rfl) (fun _ _ _ h => h) (Or.inl ⟨by rfl, ?_⟩) (by assumption) ?_
            rotate_left
            · intro w hSw
              go_simp
              with_reducible rfl
            try simp only [List.getElem_toArray, List.getElem_cons_succ, List.getElem_cons_zero, Act.put, List.setIfInBounds_toArray, List.set_cons_zero, List.set_cons_succ]
            refine wpAnyH_take (i := 29) (v := ?_) rfl (by kernel_rfl) (by kernel_rfl) (by kernel_rfl) (fun _ _ _ h => h) (Or.inl ⟨by rfl, ?_⟩) (by assumption) ?_
            rotate_left
            · intro w hSw
              go_simp
              with_reducible rfl
            try simp only [List.getElem_toArray, List.getElem_cons_succ, List.getElem_cons_zero, Act.put, List.setIfInBounds_toArray, List.set_cons_zero, List.set_cons_succ]
            refine wpAnyH_take (i := 30) (v := ?_) rfl (by kernel_rfl) (by kernel_rfl) (by kernel_rfl) (fun _ _ _ h => h) (Or.inl ⟨by rfl, ?_⟩) (by assumption) ?_
            rotate_left
            · intro w hSw
              go_simp
              with_reducible rfl
            try simp only [List.getElem_toArray, List.getElem_cons_succ, List.getElem_cons_zero, Act.put, List.setIfInBounds_toArray, List.set_cons_zero, List.set_cons_succ]
            refine wpAnyH_take (i := 31) (v := ?_) rfl (by kernel_rfl) (by kernel_rfl) (by kernel_rfl) (fun _ _ _ h => h) (Or.inl ⟨by rfl, ?_⟩) (by assumption) ?_
            rotate_left
            · intro w hSw
              go_simp
              with_reducible rfl
            try simp only [List.getElem_toArray, List.getElem_cons_succ, List.getElem_cons_zero, Act.put, List.setIfInBounds_toArray, List.set_cons_zero, List.set_cons_succ]
            refine wpAnyH_take (i := 32) (v := ?_) rfl (by kernel_rfl) (by kernel_rfl) (by kernel_rfl) (fun _ _ _ h => h) (Or.inl ⟨by rfl, ?_⟩) (by assumption) ?_
            rotate_left
            · intro w hSw
              go_simp
              with_reducible rfl
            try simp only [List.getElem_toArray, List.getElem_cons_succ, List.getElem_cons_zero, Act.put, List.setIfInBounds_toArray, List.set_cons_zero, List.set_cons_succ]
            refine wpAnyH_take (i := 33) (v := ?_) rfl (by kernel_rfl) (by kernel_rfl) (by kernel_rfl) (fun _ _ _ h => h) (Or.inl ⟨by rfl, ?_⟩) (by assumption) ?_
            rotate_left
            · intro w hSw
              go_simp
              with_reducible rfl
            try simp only [List.getElem_toArray, List.getElem_cons_succ, List.getElem_cons_zero, Act.put, List.setIfInBounds_toArray, List.set_cons_zero, List.set_cons_succ]
            refine wpAnyH_done (by kernel_rfl) ?_ _
            clear hHeld
            go_wp2_with fail
            go_meet
            case rel => exact ⟨rfl, ⟨blk_drew HN.out⟩, ⟨blk_drew HT.out⟩, ⟨blk_drew HPd.out⟩, ⟨Kd.C_drew HC_P.out⟩, ⟨Kd.C_drew HC_S.out⟩, ⟨Kd.C_drew HC_D.out⟩, ⟨below_drew1 HB.out⟩⟩
          · have h3 : decide (0 < i) = false := decide_eq_false hi
            clear hi
            have h0 := HH0.out
            have hlt := HLT.out
            skip
            go_wp2_with fail
            refine wp_region_held_drew (S := fun w' => w'.cell? (ad.add (i.toNat * 2)) = some (.int .u64 m)) (by kernel_rfl) (by simpa using hm0) (fun hHeld => ?_)
            refine wpAnyH_take (i := 0) (v := ?_) rfl (by kernel_rfl) (by kernel_rfl) (by kernel_rfl) (fun _ _ _ h => h) (Or.inl ⟨by rfl, ?_⟩) (by assumption) ?_
            rotate_left
            · intro w hSw
              go_simp
              with_reducible rfl
            try simp only [List.getElem_toArray, List.getElem_cons_succ, List.getElem_cons_zero, Act.put, List.setIfInBounds_toArray, List.set_cons_zero, List.set_cons_succ]
            refine wpAnyH_take (i := 1) (v := ?_) rfl (by kernel_rfl) (by kernel_rfl) (by kernel_rfl) (fun _ _ _ h => h) (Or.inl ⟨by rfl, ?_⟩) (by assumption) ?_
            rotate_left
            · intro w hSw
              go_simp
              with_reducible rfl
            try simp only [List.getElem_toArray, List.getElem_cons_succ, List.getElem_cons_zero, Act.put, List.setIfInBounds_toArray, List.set_cons_zero, List.set_cons_succ]
            refine wpAnyH_take (i := 2) (v := ?_) rfl (by kernel_rfl) (by kernel_rfl) (by kernel_rfl) (fun _ _ _ h => h) (Or.inl ⟨by rfl, ?_⟩) (by assumption) ?_
            rotate_left
            · intro w hSw
              go_simp
              with_reducible rfl
            try simp only [List.getElem_toArray, List.getElem_cons_succ, List.getElem_cons_zero, Act.put, List.setIfInBounds_toArray, List.set_cons_zero, List.set_cons_succ]
            refine wpAnyH_take (i := 3) (v := ?_) rfl (by kernel_rfl) (by kernel_rfl) (by kernel_rfl) (fun _ _ _ h => h) (Or.inl ⟨by rfl, ?_⟩) (by assumption) ?_
            rotate_left
            · intro w hSw
              go_simp
              with_reducible rfl
            try simp only [List.getElem_toArray, List.getElem_cons_succ, List.getElem_cons_zero, Act.put, List.setIfInBounds_toArray, List.set_cons_zero, List.set_cons_succ]
            refine wpAnyH_take (i := 4) (v := ?_) rfl (by kernel_rfl) (by kernel_rfl) (by kernel_rfl) (fun _ _ _ h => h) (Or.inl ⟨by rfl, ?_⟩) (by assumption) ?_
            rotate_left
            · intro w hSw
              go_simp
              with_reducible rfl
            try simp only [List.getElem_toArray, List.getElem_cons_succ, List.getElem_cons_zero, Act.put, List.setIfInBounds_toArray, List.set_cons_zero, List.set_cons_succ]
            refine wpAnyH_take (i := 5) (v := ?_) rfl (by kernel_rfl) (by kernel_rfl) (by kernel_rfl) (fun _ _ _ h => h) (Or.inl ⟨by rfl, ?_⟩) (by assumption) ?_
            rotate_left
            · intro w hSw
              go_simp
              with_reducible rfl
            try simp only [List.getElem_toArray, List.getElem_cons_succ, List.getElem_cons_zero, Act.put, List.setIfInBounds_toArray, List.set_cons_zero, List.set_cons_succ]
            refine wpAnyH_take (i := 6) (v := ?_) rfl (by kernel_rfl) (by kernel_rfl) (by kernel_rfl) (fun _ _ _ h => h) (Or.inl ⟨by rfl, ?_⟩) (by assumption) ?_
            rotate_left
            · intro w hSw
              go_simp
              with_reducible rfl
            try simp only [List.getElem_toArray, List.getElem_cons_succ, List.getElem_cons_zero, Act.put, List.setIfInBounds_toArray, List.set_cons_zero, List.set_cons_succ]
            refine wpAnyH_take (i := 7) (v := ?_) rfl (by kernel_rfl) (by kernel_rfl) (by kernel_rfl) (fun _ _ _ h => h) (Or.inl ⟨by rfl, ?_⟩) (by assumption) ?_
            rotate_left
            · intro w hSw
              go_simp
              with_reducible rfl
            try simp only [List.getElem_toArray, List.getElem_cons_succ, List.getElem_cons_zero, Act.put, List.setIfInBounds_toArray, List.set_cons_zero, List.set_cons_succ]
            refine wpAnyH_take (i := 8) (v := ?_) rfl (by kernel_rfl) (by kernel_rfl) (by kernel_rfl) (fun _ _ _ h => h) (Or.inl ⟨by rfl, ?_⟩) (by assumption) ?_
            rotate_left
            · intro w hSw
              go_simp
              with_reducible rfl
            try simp only [List.getElem_toArray, List.getElem_cons_succ, List.getElem_cons_zero, Act.put, List.setIfInBounds_toArray, List.set_cons_zero, List.set_cons_succ]
            refine wpAnyH_take (i := 9) (v := ?_) rfl (by kernel_rfl) (by kernel_rfl) (by kernel_rfl) (fun _ _ _ h => h) (Or.inl ⟨by rfl, ?_⟩) (by assumption) ?_
            rotate_left
            · intro w hSw
              go_simp
              with_reducible rfl
            try simp only [List.getElem_toArray, List.getElem_cons_succ, List.getElem_cons_zero, Act.put, List.setIfInBounds_toArray, List.set_cons_zero, List.set_cons_succ]
            refine wpAnyH_take (i := 10) (v := ?_) rfl (by kernel_rfl) (by kernel_rfl) (by kernel_rfl) (fun _ _ _ h => h) (Or.inl ⟨by rfl, ?_⟩) (by assumption) ?_
            rotate_left
            · intro w hSw
              go_simp
              with_reducible rfl
            try simp only [List.getElem_toArray, List.getElem_cons_succ, List.getElem_cons_zero, Act.put, List.setIfInBounds_toArray, List.set_cons_zero, List.set_cons_succ]
            refine wpAnyH_take (i := 11) (v := ?_) rfl (by kernel_rfl) (by kernel_rfl) (by kernel_rfl) (fun _ _ _ h => h) (Or.inl ⟨by rfl, ?_⟩) (by assumption) ?_
            rotate_left
            · intro w hSw
              go_simp
              with_reducible rfl
            try simp only [List.getElem_toArray, List.getElem_cons_succ, List.getElem_cons_zero, Act.put, List.setIfInBounds_toArray, List.set_cons_zero, List.set_cons_succ]
            refine wpAnyH_take (i := 12) (v := ?_) rfl (by kernel_rfl) (by kernel_rfl) (by kernel_rfl) (fun _ _ _ h => h) (Or.inl ⟨by rfl, ?_⟩) (by assumption) ?_
            rotate_left
            · intro w hSw
              go_simp
              with_reducible rfl
            try simp only [List.getElem_toArray, List.getElem_cons_succ, List.getElem_cons_zero, Act.put, List.setIfInBounds_toArray, List.set_cons_zero, List.set_cons_succ]
            refine wpAnyH_take (i := 13) (v := ?_) rfl (by kernel_rfl) (by kernel_rfl) (by kernel_rfl) (fun _ _ _ h => h) (Or.inl ⟨by rfl, ?_⟩) (by assumption) ?_
            rotate_left
            · intro w hSw
              go_simp
              with_reducible rfl
            try simp only [List.getElem_toArray, List.getElem_cons_succ, List.getElem_cons_zero, Act.put, List.setIfInBounds_toArray, List.set_cons_zero, List.set_cons_succ]
            refine wpAnyH_take (i := 14) (v := ?_) rfl (by kernel_rfl) (by kernel_rfl) (by kernel_rfl) (fun _ _ _ h => h) (Or.inl ⟨by rfl, ?_⟩) (by assumption) ?_
            rotate_left
            · intro w hSw
              go_simp
              with_reducible rfl
            try simp only [List.getElem_toArray, List.getElem_cons_succ, List.getElem_cons_zero, Act.put, List.setIfInBounds_toArray, List.set_cons_zero, List.set_cons_succ]
            refine wpAnyH_take (i := 15) (v := ?_) rfl (by kernel_rfl) (by kernel_rfl) (by kernel_rfl) (fun _ _ _ h => h) (Or.inl ⟨by rfl, ?_⟩) (by assumption) ?_
            rotate_left
            · intro w hSw
              go_simp
              with_reducible rfl
            try simp only [List.getElem_toArray, List.getElem_cons_succ, List.getElem_cons_zero, Act.put, List.setIfInBounds_toArray, List.set_cons_zero, List.set_cons_succ]
            refine wpAnyH_take (i := 16) (v := ?_) rfl (by kernel_rfl) (by kernel_rfl) (by kernel_rfl) (fun _ _ _ h => h) (Or.inl ⟨by rfl, ?_⟩) (by assumption) ?_
            rotate_left
            · intro w hSw
              go_simp
              with_reducible rfl
            try simp only [List.getElem_toArray, List.getElem_cons_succ, List.getElem_cons_zero, Act.put, List.setIfInBounds_toArray, List.set_cons_zero, List.set_cons_succ]
            refine wpAnyH_take (i := 17) (v := ?_) rfl (by kernel_rfl) (by kernel_rfl) (by kernel_rfl) (fun _ _ _ h => h) (Or.inl ⟨by rfl, ?_⟩) (by assumption) ?_
            rotate_left
            · intro w hSw
              go_simp
              with_reducible rfl
            try simp only [List.getElem_toArray, List.getElem_cons_succ, List.getElem_cons_zero, Act.put, List.setIfInBounds_toArray, List.set_cons_zero, List.set_cons_succ]
            refine wpAnyH_take (i := 18) (v := ?_) rfl (by kernel_rfl) (by kernel_rfl) (by kernel_rfl) (fun _ _ _ h => h) (Or.inl ⟨by rfl, ?_⟩) (by assumption) ?_
            rotate_left
            · intro w hSw
              go_simp
              with_reducible rfl
            try simp only [List.getElem_toArray, List.getElem_cons_succ, List.getElem_cons_zero, Act.put, List.setIfInBounds_toArray, List.set_cons_zero, List.set_cons_succ]
            refine wpAnyH_take (i := 19) (v := ?_) rfl (by kernel_rfl) (by kernel_rfl) (by kernel_rfl) (fun _ _ _ h => h) (Or.inl ⟨by rfl, ?_⟩) (by assumption) ?_
            rotate_left
            · intro w hSw
              go_simp
              with_reducible rfl
            try simp only [List.getElem_toArray, List.getElem_cons_succ, List.getElem_cons_zero, Act.put, List.setIfInBounds_toArray, List.set_cons_zero, List.set_cons_succ]
            refine wpAnyH_take (i := 20) (v := undef) rfl (by kernel_rfl) (by kernel_rfl) (by kernel_rfl) (fun _ _ _ h => h) (Or.inr ⟨by rfl, rfl⟩) (by assumption) ?_
            try simp only [List.getElem_toArray, List.getElem_cons_succ, List.getElem_cons_zero, Act.put, List.setIfInBounds_toArray, List.set_cons_zero, List.set_cons_succ]
            refine wpAnyH_take (i := 21) (v := undef) rfl (by kernel_rfl) (by kernel_rfl) (by kernel_rfl) (fun _ _ _ h => h) (Or.inr ⟨by rfl, rfl⟩) (by assumption) ?_
            try simp only [List.getElem_toArray, List.getElem_cons_succ, List.getElem_cons_zero, Act.put, List.setIfInBounds_toArray, List.set_cons_zero, List.set_cons_succ]
            refine wpAnyH_take (i := 22) (v := undef) rfl (by kernel_rfl) (by kernel_rfl) (by kernel_rfl) (fun _ _ _ h => h) (Or.inr ⟨by rfl, rfl⟩) (by assumption) ?_
            try simp only [List.getElem_toArray, List.getElem_cons_succ, List.getElem_cons_zero, Act.put, List.setIfInBounds_toArray, List.set_cons_zero, List.set_cons_succ]
            refine wpAnyH_take (i := 23) (v := undef) rfl (by kernel_rfl) (by kernel_rfl) (by kernel_rfl) (fun _ _ _ h => h) (Or.inr ⟨by rfl, rfl⟩) (by assumption) ?_
            try simp only [List.getElem_toArray, List.getElem_cons_succ, List.getElem_cons_zero, Act.put, List.setIfInBounds_toArray, List.set_cons_zero, List.set_cons_succ]
            refine wpAnyH_take (i := 24) (v := undef) rfl (by kernel_rfl) (by kernel_rfl) (by kernel_rfl) (fun _ _ _ h => h) (Or.inr ⟨by rfl, rfl⟩) (by assumption) ?_
            try simp only [List.getElem_toArray, List.getElem_cons_succ, List.getElem_cons_zero, Act.put, List.setIfInBounds_toArray, List.set_cons_zero, List.set_cons_succ]
            refine wpAnyH_take (i := 25) (v := undef) rfl (by kernel_rfl) (by kernel_rfl) (by kernel_rfl) (fun _ _ _ h => h) (Or.inr ⟨by rfl, rfl⟩) (by assumption) ?_
            try simp only [List.getElem_toArray, List.getElem_cons_succ, List.getElem_cons_zero, Act.put, List.setIfInBounds_toArray, List.set_cons_zero, List.set_cons_succ]
            refine wpAnyH_take (i := 26) (v := undef) rfl (by kernel_rfl) (by kernel_rfl) (by kernel_rfl) (fun _ _ _ h => h) (Or.inr ⟨by rfl, rfl⟩) (by assumption) ?_
            try simp only [List.getElem_toArray, List.getElem_cons_succ, List.getElem_cons_zero, Act.put, List.setIfInBounds_toArray, List.set_cons_zero, List.set_cons_succ]
            refine wpAnyH_take (i := 27) (v := undef) rfl (by kernel_rfl) (by kernel_rfl) (by kernel_rfl) (fun _ _ _ h => h) (Or.inr ⟨by rfl, rfl⟩) (by assumption) ?_
            try simp only [List.getElem_toArray, List.getElem_cons_succ, List.getElem_cons_zero, Act.put, List.setIfInBounds_toArray, List.set_cons_zero, List.set_cons_succ]
            refine wpAnyH_take (i := 28) (v := undef) rfl (by kernel_rfl) (by kernel_rfl) (by kernel_rfl) (fun _ _ _ h => h) (Or.inr ⟨by rfl, rfl⟩) (by assumption) ?_
            try simp only [List.getElem_toArray, List.getElem_cons_succ, List.getElem_cons_zero, Act.put, List.setIfInBounds_toArray, List.set_cons_zero, List.set_cons_succ]
            refine wpAnyH_take (i := 29) (v := undef) rfl (by kernel_rfl) (by kernel_rfl) (by kernel_rfl) (fun _ _ _ h => h) (Or.inr ⟨by rfl, rfl⟩) (by assumption) ?_
            try simp only [List.getElem_toArray, List.getElem_cons_succ, List.getElem_cons_zero, Act.put, List.setIfInBounds_toArray, List.set_cons_zero, List.set_cons_succ]
            refine wpAnyH_take (i := 30) (v := undef) rfl (by kernel_rfl) (by kernel_rfl) (by kernel_rfl) (fun _ _ _ h => h) (Or.inr ⟨by rfl, rfl⟩) (by assumption) ?_
            try simp only [List.getElem_toArray, List.getElem_cons_succ, List.getElem_cons_zero, Act.put, List.setIfInBounds_toArray, List.set_cons_zero, List.set_cons_succ]
            refine wpAnyH_take (i := 31) (v := undef) rfl (by kernel_rfl) (by kernel_rfl) (by kernel_rfl) (fun _ _ _ h => h) (Or.inr ⟨by rfl, rfl⟩) (by assumption) ?_
            try simp only [List.getElem_toArray, List.getElem_cons_succ, List.getElem_cons_zero, Act.put, List.setIfInBounds_toArray, List.set_cons_zero, List.set_cons_succ]
            refine wpAnyH_take (i := 32) (v := ?_) rfl (by kernel_rfl) (by kernel_rfl) (by kernel_rfl) (fun _ _ _ h => h) (Or.inl ⟨by rfl, ?_⟩) (by assumption) ?_
            rotate_left
            · intro w hSw
              go_simp
              with_reducible rfl
            try simp only [List.getElem_toArray, List.getElem_cons_succ, List.getElem_cons_zero, Act.put, List.setIfInBounds_toArray, List.set_cons_zero, List.set_cons_succ]
            refine wpAnyH_take (i := 33) (v := ?_) rfl (by kernel_rfl) (by kernel_rfl) (by kernel_rfl) (fun _ _ _ h => h) (Or.inl ⟨by rfl, ?_⟩) (by assumption) ?_
            rotate_left
            · intro w hSw
              go_simp
              with_reducible rfl
            try simp only [List.getElem_toArray, List.getElem_cons_succ, List.getElem_cons_zero, Act.put, List.setIfInBounds_toArray, List.set_cons_zero, List.set_cons_succ]
            refine wpAnyH_done (by kernel_rfl) ?_ _
            clear hHeld
            go_wp2_with fail
            go_meet
            case rel => exact ⟨rfl, ⟨blk_drew HN.out⟩, ⟨blk_drew HT.out⟩, ⟨blk_drew HPd.out⟩, ⟨Kd.C_drew HC_P.out⟩, ⟨Kd.C_drew HC_S.out⟩, ⟨Kd.C_drew HC_D.out⟩, ⟨below_drew1 HB.out⟩⟩
        case rest =>
          as_aux_lemma =>
          clear hm0 ht0 HN HT HPd HC_P HC_S HC_D HB
          obtain ⟨rfl, HNc, HTc, HPdc, HC_Pc, HC_Sc, HC_Dc, HBc⟩ := hcut
          have h0 := HH0.out
          have hlt := HLT.out
          obtain ⟨ad3, e3, hm0, ht0⟩ := at_T76 HC_Dc.out i h0 hlt
          cases e3
          rw [← HXX.out] at hm0 ht0
          dsimp only at hm0 ht0
          by_cases htp : 0 < t
          · have hd : decide (0 < t) = true := decide_eq_true htp
            have hkl := HKL.out htp
            obtain ⟨LS, hLS⟩ : ∃ LS, LS = DU.set i.toNat ⟨m, t - 1⟩ := ⟨_, rfl⟩
            rw [← hLS] at hkl
            obtain ⟨QQ, hQQ⟩ : ∃ QQ, QQ = D_from xs P LS := ⟨_, rfl⟩
            have HV := Aside0.mk (show D_printFrom xs P LS = (QQ, 0) by rw [hQQ]; exact if_pos ⟨HXA.out, HPC.out, hkl.1⟩)
            have HQL := Aside0.mk (show QQ.length = 64 by rw [hQQ]; exact D_fromLen xs P LS)
            have HQT := Aside0.mk (show ∀ j : Int, 0 ≤ j → j < 64 → D_bit m j → rd QQ j < rd T j by rw [hQQ]; exact hkl.2)
            have HL8s := Aside0.mk (RP_8 hkl.1.1)
            have HLn := Aside0.mk (show LS.length ≤ 140737488351232 by have := hkl.1.2; omega)
            have HLL := Aside0.mk (show LS.length = DU.length by rw [hLS]; simp)
            have HLS := Aside0.mk hLS
            have hw8 : IntKind.i8.wrap (t - 1) = t - 1 := L_w8 (by have := HT0.out; omega)
            clear hkl hQQ hLS htp
            go_upto_region 22 with (first | ((with_reducible refine gate_dst (N := 161) rfl ?_); refine Kd.R_lit k76 _ 76 ?hg (N := 161) ?hd (xs := ([] : List S76)) (inner := []) (ok := fun _ => True) (okp := fun _ => True) ?hr ?hp (fun _ hk => hk) trivial (Below.refl _ _) (Nat.le_refl _) (by simp) ?_; (case hd => rfl); (case hg => rfl); (case hr => first | (go_simp; done) | (go_simp; rfl)); (case hp => exact (Reps.none _ _)); intro v161 w4 ho7 hb hg_ hnew_; clear hg_ hnew_; have HO4 := Aside0.mk ho7; have HB4 := Aside0.mk hb; clear hb ho7) | ((with_reducible refine gate_builtin (b := .append) (xs := #[.tmp 161, .tmp 162]) rfl ?_); at_builtin; refine Kd.R_append_rows k76 (w0 := wc) wc.heap.size rfl (.tmp 161) (.tmp 162) 27 76 (.agg #[(.int .u64 0), (.int .i8 0)]) 16 rfl Try.underlying27 info76 rfl (by decide) (by omega) v161 [] DU _ _ _ (fun _ => True) (fun _ => False) rfl rfl ?aO ?aR (fun _ _ h => h) (fun _ h => h.elim) ?aF ?aB ?aS ?aL ?_; (case aO => exact HO4.out); (case aR => exact Kd.C_below HC_Dc.out HB4.out); (case aF => exact fun _ _ => trivial); (case aB => exact HB4.out); (case aS => exact Below.size HB4.out); (case aL => (simp only [List.length_nil, Nat.zero_add]; have := HDS.out.2; omega)); intro v163 w8 ho hb hg hat; clear hg hat; rw [List.nil_append] at ho; have HO8 := Aside0.mk ho; have HB8 := Aside0.mk hb; clear ho hb HO4 HB4))
            obtain ⟨gL, cL, eL, gbL, glL, clL, HGL⟩ := Kd.R_form HO8.out (by have := HH0.out; have := HLT.out; omega)
            subst eL
            have GBL := Aside0.mk gbL
            clear gbL glL HGL
            have h0 := HH0.out
            have hlt := HLT.out
            obtain ⟨ce8, hcl8, hM8, hcc8, hfr8⟩ := Kd.R_elem HO8.out z76 i h0 hlt
            obtain rfl := k76_openM hM8
            have hx1 : w8.cell? ⟨gL, i.toNat * 2 + 1, none⟩ = some (.int .i8 t) := by
              have h_ : w8.cell? ⟨gL, i.toNat * 2 + 1, none⟩ = some (.int .i8 (rd_T76 DU i).f1) := hcc8 1 _ rfl
              rw [← HXX.out] at h_
              exact h_
            have hf1 : w8.frozen? ⟨gL, i.toNat * 2 + 1, none⟩ = false := hfr8 1
            have HP8 := Kd.R_seg HO8.out i h0 hlt (seg := [.int .i8 (t - 1)]) (j := 1) hcl8 hcc8 (show 2 ≤ 2 from by decide) (x' := (⟨(rd_T76 DU i).f0, t - 1⟩ : S76)) (k76_mkM _ _ _ (⟨(rd_T76 DU i).f0, t - 1⟩ : S76)) (fun _ hk => hk)
            rw [← HXX.out] at HP8
            dsimp only at HP8
            rw [← HLS.out] at HP8
            have HP9 := Aside0.mk (show Kd.R k76 76 (w8.setCell ⟨gL, i.toNat * 2 + 1, none⟩ (.int .i8 (t - 1))) wc.heap.size (fun _ => True) (.slice (some ⟨gL, 0, none⟩) DU.length cL) LS from HP8.1)
            clear HP8 hcl8 hcc8 hfr8 hM8 h0 hlt
            have hbs : Below wc.heap.size wc (w8.setCell ⟨gL, i.toNat * 2 + 1, none⟩ (.int .i8 (t - 1))) := below_set HB8.out GBL.out
            have HBS := Aside0.mk hbs
            clear hbs
            go_upto_region 23 with fail
            clear hx1 hf1 HO8 HB8
            have HN3 := Aside0.mk (HNc.out.below HBS.out)
            have HT3 := Aside0.mk (HTc.out.below HBS.out)
            have hcon := impl_PrintFrom.arr xs HX.out (RP_16 HXA.out) _ _ P (some ⟨gL, 0, none⟩) cL LS (w8.setCell ⟨gL, i.toNat * 2 + 1, none⟩ (.int .i8 (t - 1))) (Kd.C_below HC_Pc.out HBS.out) P_c.out (Kd.R_reads' HP9.out).2.2 (by have := (Kd.R_reads' HP9.out).2.1; have := HLL.out; omega) HPI.out HPL.out HL8s.out HLn.out
            rw [HLL.out] at hcon
            have HCON := Aside0.mk hcon
            clear hcon
            go_wp2_with (first | (refine arr_load rfl 42 _ rfl w3.heap.size rfl 42 .i16 xs HN3.out _ Try.underlying42 rfl 64 (by kernel_rfl) HX.out ?_))
            refine HCON.out.mono ?_
            rintro e w9 ⟨rfl, hb⟩
            rw [HV.out]
            have HB9 := Aside0.mk (below_step HBS.out hb)
            clear hb HN3 HT3 HCON HBS HP9
            have HN9 := Aside0.mk (HNc.out.below HB9.out)
            have HT9 := Aside0.mk (HTc.out.below HB9.out)
            have HPd9 := Aside0.mk (HPdc.out.below HB9.out)
            have HC_P9 := Aside0.mk (Kd.C_below HC_Pc.out HB9.out)
            have HC_S9 := Aside0.mk (Kd.C_below HC_Sc.out HB9.out)
            have HC_D9 := Aside0.mk (Kd.C_below HC_Dc.out HB9.out)
            have HBX := Aside0.mk (below_step HBc.out HB9.out)
            clear HB9 HNc HTc HPdc HC_Pc HC_Sc HC_Dc HBc
            have Q_n := Aside0.mk (ArrAt.new w9 39 .i16 (zer 64))
            have Q_0 := Aside0.mk (Q_n.out.row (ys := QQ))
            have hba := below_row (below_alloc (Below.refl w9.heap.size w9) (.cells (nums .i16 (zer 64)).toArray 39)) (Nat.le_refl w9.heap.size) (nums .i16 QQ).toArray
            have N_31 := Aside0.mk (ArrAt.below HN9.out hba)
            have T_31 := Aside0.mk (ArrAt.below HT9.out hba)
            have Pd_31 := Aside0.mk (ArrAt.below HPd9.out hba)
            have P_31 := Aside0.mk (Kd.C_below HC_P9.out hba)
            have S_31 := Aside0.mk (Kd.C_below HC_S9.out hba)
            have D_31 := Aside0.mk (Kd.C_below HC_D9.out hba)
            have HB_31 := Aside0.mk (below_step HBX.out hba)
            clear hba HN9 HT9 HPd9 HC_P9 HC_S9 HC_D9 HBX
            go_wp2_with (first | (refine arr_store rfl 39 _ _ rfl w9.heap.size .i16 QQ rfl rfl 39 (zer 64) Q_n.out 64 (by kernel_rfl) (zer_len 64) HQL.out ?_) | (refine arr_load rfl 42 _ rfl w3.heap.size rfl 42 .i16 xs N_31.out _ Try.underlying42 rfl 64 (by kernel_rfl) HX.out ?_) | (refine arr_load rfl 39 _ rfl w7.heap.size rfl 39 .i16 T T_31.out _ Try.underlying39 rfl 64 (by kernel_rfl) HTL.out ?_) | (refine arr_load rfl 39 _ rfl w12.heap.size rfl 39 .i16 PD Pd_31.out _ Try.underlying39 rfl 64 (by kernel_rfl) HPDL.out ?_) | (refine arr_load rfl 39 _ rfl w9.heap.size rfl 39 .i16 QQ Q_0.out _ Try.underlying39 rfl 64 (by kernel_rfl) HQL.out ?_))
            go_loopg [21] 64 (fun kj v21 w' => ∃ (j : Int) (V : World), V = w' ∧ v21 = .int .i64 j ∧ Aside0 (0 ≤ j ∧ j + kj = 64) ∧ Aside0 (ArrAt V w3.heap.size 42 .i16 xs) ∧ Aside0 (ArrAt V w7.heap.size 39 .i16 T) ∧ Aside0 (ArrAt V w12.heap.size 39 .i16 PD) ∧ Aside0 (Kd.C k91 V A_P P.length P) ∧ Aside0 (Kd.C k76 V A_S S.length S) ∧ Aside0 (Kd.C k76 V (some ad) DU.length DU) ∧ Aside0 (Below w.heap.size w V) ∧ Aside0 (ArrAt V w9.heap.size 39 .i16 QQ))
            case atStart => exact ⟨0, _, rfl, rfl, ⟨by omega⟩, N_31, T_31, Pd_31, P_31, S_31, D_31, HB_31, Q_0⟩
            case round =>
              as_aux_lemma =>
              clear N_31 T_31 Pd_31 P_31 S_31 D_31 HB_31 Q_0
              obtain ⟨j, V, rfl, rfl, HJ, HN, HT, HPd, HC_P, HC_S, HC_D, HB, HQ⟩ := hrel
              cases gk with
              | zero =>
                have hdec2 : decide (j < 64) = false := decide_eq_false (by have := HJ.out; omega)
                go_wp2_with fail
                go_roundg k1
                case measure => omega
                case rel => exact ⟨_, i + 1, _, rfl, rfl, (by first | rfl | exact congrArg (Value.int .i64) hwi), ⟨by have := HI.out; omega⟩, ⟨HOR.out⟩, HN, HT, HPd, HC_P, HC_S, HC_D, HB⟩
              | succ j1 =>
                have j0 := HJ.out.1
                have hj : j < 64 := by have := HJ.out; omega
                have hdec2 : decide (j < 64) = true := decide_eq_true hj
                have hju : IntKind.u64.wrap j = j := by simp [IntKind.wrap, IntKind.bits, IntKind.signed]; omega
                have hwj : wrap64 (j + 1) = j + 1 := by unfold wrap64; omega
                obtain ⟨ad4, e4, hm0, _⟩ := at_T76 HC_D.out i HH0.out HLT.out
                cases e4
                rw [← HXX.out] at hm0
                dsimp only at hm0
                have h0 := HH0.out
                have hlt := HLT.out
                have c1 : V.cell? ⟨w9.heap.size, j.toNat, none⟩ = some (.int .i16 (rd QQ j)) := HQ.out.cell j0 (by rw [HQL.out]; omega)
                have c2 : V.cell? ⟨w7.heap.size, j.toNat, none⟩ = some (.int .i16 (rd T j)) := HT.out.cell j0 (by rw [HTL.out]; omega)
                by_cases hbm : D_bit m j
                · have hbt : (Go.bits .and .u64 (m / 2 ^ j.toNat) 1 == 1) = true := beq_iff_eq.mpr hbm
                  have hge : decide (rd QQ j ≥ rd T j) = false := decide_eq_false (by have := HQT.out j j0 hj hbm; omega)
                  clear hbm
                  go_wp2_with fail
                  refine wp_region_held_drew (S := fun w' => w'.cell? (ad.add (i.toNat * 2)) = some (.int .u64 m) ∧ w'.cell? ⟨w9.heap.size, j.toNat, none⟩ = some (.int .i16 (rd QQ j)) ∧ w'.cell? ⟨w7.heap.size, j.toNat, none⟩ = some (.int .i16 (rd T j))) (by kernel_rfl) ⟨by simpa using hm0, by simpa using c1, by simpa using c2⟩ (fun hHeld => ?_)
                  refine wpAnyH_take (i := 0) (v := ?_) rfl (by kernel_rfl) (by kernel_rfl) (by kernel_rfl) (fun _ _ _ h => h) (Or.inl ⟨by rfl, ?_⟩) (by assumption) ?_
                  rotate_left
                  · intro w hSw
                    go_simp
                    with_reducible rfl
                  try simp only [List.getElem_toArray, List.getElem_cons_succ, List.getElem_cons_zero, Act.put, List.setIfInBounds_toArray, List.set_cons_zero, List.set_cons_succ]
                  refine wpAnyH_take (i := 1) (v := ?_) rfl (by kernel_rfl) (by kernel_rfl) (by kernel_rfl) (fun _ _ _ h => h) (Or.inl ⟨by rfl, ?_⟩) (by assumption) ?_
                  rotate_left
                  · intro w hSw
                    go_simp
                    with_reducible rfl
                  try simp only [List.getElem_toArray, List.getElem_cons_succ, List.getElem_cons_zero, Act.put, List.setIfInBounds_toArray, List.set_cons_zero, List.set_cons_succ]
                  refine wpAnyH_take (i := 2) (v := ?_) rfl (by kernel_rfl) (by kernel_rfl) (by kernel_rfl) (fun _ _ _ h => h) (Or.inl ⟨by rfl, ?_⟩) (by assumption) ?_
                  rotate_left
                  · intro w hSw
                    go_simp
                    with_reducible rfl
                  try simp only [List.getElem_toArray, List.getElem_cons_succ, List.getElem_cons_zero, Act.put, List.setIfInBounds_toArray, List.set_cons_zero, List.set_cons_succ]
                  refine wpAnyH_take (i := 3) (v := ?_) rfl (by kernel_rfl) (by kernel_rfl) (by kernel_rfl) (fun _ _ _ h => h) (Or.inl ⟨by rfl, ?_⟩) (by assumption) ?_
                  rotate_left
                  · intro w hSw
                    go_simp
                    with_reducible rfl
                  try simp only [List.getElem_toArray, List.getElem_cons_succ, List.getElem_cons_zero, Act.put, List.setIfInBounds_toArray, List.set_cons_zero, List.set_cons_succ]
                  refine wpAnyH_take (i := 4) (v := ?_) rfl (by kernel_rfl) (by kernel_rfl) (by kernel_rfl) (fun _ _ _ h => h) (Or.inl ⟨by rfl, ?_⟩) (by assumption) ?_
                  rotate_left
                  · intro w hSw
                    go_simp
                    with_reducible rfl
                  try simp only [List.getElem_toArray, List.getElem_cons_succ, List.getElem_cons_zero, Act.put, List.setIfInBounds_toArray, List.set_cons_zero, List.set_cons_succ]
                  refine wpAnyH_take (i := 5) (v := ?_) rfl (by kernel_rfl) (by kernel_rfl) (by kernel_rfl) (fun _ _ _ h => h) (Or.inl ⟨by rfl, ?_⟩) (by assumption) ?_
                  rotate_left
                  · intro w hSw
                    go_simp
                    with_reducible rfl
                  try simp only [List.getElem_toArray, List.getElem_cons_succ, List.getElem_cons_zero, Act.put, List.setIfInBounds_toArray, List.set_cons_zero, List.set_cons_succ]
                  refine wpAnyH_take (i := 6) (v := ?_) rfl (by kernel_rfl) (by kernel_rfl) (by kernel_rfl) (fun _ _ _ h => h) (Or.inl ⟨by rfl, ?_⟩) (by assumption) ?_
                  rotate_left
                  · intro w hSw
                    go_simp
                    with_reducible rfl
                  try simp only [List.getElem_toArray, List.getElem_cons_succ, List.getElem_cons_zero, Act.put, List.setIfInBounds_toArray, List.set_cons_zero, List.set_cons_succ]
                  refine wpAnyH_take (i := 7) (v := ?_) rfl (by kernel_rfl) (by kernel_rfl) (by kernel_rfl) (fun _ _ _ h => h) (Or.inl ⟨by rfl, ?_⟩) (by assumption) ?_
                  rotate_left
                  · intro w hSw
                    go_simp
                    with_reducible rfl
                  try simp only [List.getElem_toArray, List.getElem_cons_succ, List.getElem_cons_zero, Act.put, List.setIfInBounds_toArray, List.set_cons_zero, List.set_cons_succ]
                  refine wpAnyH_take (i := 8) (v := ?_) rfl (by kernel_rfl) (by kernel_rfl) (by kernel_rfl) (fun _ _ _ h => h) (Or.inl ⟨by rfl, ?_⟩) (by assumption) ?_
                  rotate_left
                  · intro w hSw
                    go_simp
                    with_reducible rfl
                  try simp only [List.getElem_toArray, List.getElem_cons_succ, List.getElem_cons_zero, Act.put, List.setIfInBounds_toArray, List.set_cons_zero, List.set_cons_succ]
                  refine wpAnyH_take (i := 9) (v := ?_) rfl (by kernel_rfl) (by kernel_rfl) (by kernel_rfl) (fun _ _ _ h => h) (Or.inl ⟨by rfl, ?_⟩) (by assumption) ?_
                  rotate_left
                  · intro w hSw
                    go_simp
                    with_reducible rfl
                  try simp only [List.getElem_toArray, List.getElem_cons_succ, List.getElem_cons_zero, Act.put, List.setIfInBounds_toArray, List.set_cons_zero, List.set_cons_succ]
                  refine wpAnyH_take (i := 10) (v := ?_) rfl (by kernel_rfl) (by kernel_rfl) (by kernel_rfl) (fun _ _ _ h => h) (Or.inl ⟨by rfl, ?_⟩) (by assumption) ?_
                  rotate_left
                  · intro w hSw
                    go_simp
                    with_reducible rfl
                  try simp only [List.getElem_toArray, List.getElem_cons_succ, List.getElem_cons_zero, Act.put, List.setIfInBounds_toArray, List.set_cons_zero, List.set_cons_succ]
                  refine wpAnyH_take (i := 11) (v := ?_) rfl (by kernel_rfl) (by kernel_rfl) (by kernel_rfl) (fun _ _ _ h => h) (Or.inl ⟨by rfl, ?_⟩) (by assumption) ?_
                  rotate_left
                  · intro w hSw
                    go_simp
                    with_reducible rfl
                  try simp only [List.getElem_toArray, List.getElem_cons_succ, List.getElem_cons_zero, Act.put, List.setIfInBounds_toArray, List.set_cons_zero, List.set_cons_succ]
                  refine wpAnyH_take (i := 12) (v := ?_) rfl (by kernel_rfl) (by kernel_rfl) (by kernel_rfl) (fun _ _ _ h => h) (Or.inl ⟨by rfl, ?_⟩) (by assumption) ?_
                  rotate_left
                  · intro w hSw
                    go_simp
                    with_reducible rfl
                  try simp only [List.getElem_toArray, List.getElem_cons_succ, List.getElem_cons_zero, Act.put, List.setIfInBounds_toArray, List.set_cons_zero, List.set_cons_succ]
                  refine wpAnyH_take (i := 13) (v := ?_) rfl (by kernel_rfl) (by kernel_rfl) (by kernel_rfl) (fun _ _ _ h => h) (Or.inl ⟨by rfl, ?_⟩) (by assumption) ?_
                  rotate_left
                  · intro w hSw
                    go_simp
                    with_reducible rfl
                  try simp only [List.getElem_toArray, List.getElem_cons_succ, List.getElem_cons_zero, Act.put, List.setIfInBounds_toArray, List.set_cons_zero, List.set_cons_succ]
                  refine wpAnyH_take (i := 14) (v := ?_) rfl (by kernel_rfl) (by kernel_rfl) (by kernel_rfl) (fun _ _ _ h => h) (Or.inl ⟨by rfl, ?_⟩) (by assumption) ?_
                  rotate_left
                  · intro w hSw
                    go_simp
                    with_reducible rfl
                  try simp only [List.getElem_toArray, List.getElem_cons_succ, List.getElem_cons_zero, Act.put, List.setIfInBounds_toArray, List.set_cons_zero, List.set_cons_succ]
                  refine wpAnyH_take (i := 15) (v := ?_) rfl (by kernel_rfl) (by kernel_rfl) (by kernel_rfl) (fun _ _ _ h => h) (Or.inl ⟨by rfl, ?_⟩) (by assumption) ?_
                  rotate_left
                  · intro w hSw
                    go_simp
                    with_reducible rfl
                  try simp only [List.getElem_toArray, List.getElem_cons_succ, List.getElem_cons_zero, Act.put, List.setIfInBounds_toArray, List.set_cons_zero, List.set_cons_succ]
                  refine wpAnyH_take (i := 16) (v := ?_) rfl (by kernel_rfl) (by kernel_rfl) (by kernel_rfl) (fun _ _ _ h => h) (Or.inl ⟨by rfl, ?_⟩) (by assumption) ?_
                  rotate_left
                  · intro w hSw
                    go_simp
                    with_reducible rfl
                  try simp only [List.getElem_toArray, List.getElem_cons_succ, List.getElem_cons_zero, Act.put, List.setIfInBounds_toArray, List.set_cons_zero, List.set_cons_succ]
                  refine wpAnyH_take (i := 17) (v := ?_) rfl (by kernel_rfl) (by kernel_rfl) (by kernel_rfl) (fun _ _ _ h => h) (Or.inl ⟨by rfl, ?_⟩) (by assumption) ?_
                  rotate_left
                  · intro w hSw
                    go_simp
                    with_reducible rfl
                  try simp only [List.getElem_toArray, List.getElem_cons_succ, List.getElem_cons_zero, Act.put, List.setIfInBounds_toArray, List.set_cons_zero, List.set_cons_succ]
                  refine wpAnyH_take (i := 18) (v := ?_) rfl (by kernel_rfl) (by kernel_rfl) (by kernel_rfl) (fun _ _ _ h => h) (Or.inl ⟨by rfl, ?_⟩) (by assumption) ?_
                  rotate_left
                  · intro w hSw
                    go_simp
                    with_reducible rfl
                  try simp only [List.getElem_toArray, List.getElem_cons_succ, List.getElem_cons_zero, Act.put, List.setIfInBounds_toArray, List.set_cons_zero, List.set_cons_succ]
                  refine wpAnyH_done (by kernel_rfl) ?_ _
                  clear hHeld
                  go_wp2_with fail
                  go_roundg j1
                  case measure => omega
                  case rel => exact ⟨j + 1, _, rfl, (by first | rfl | exact congrArg (Value.int .i64) hwj), ⟨by have := HJ.out; omega⟩, ⟨blk_drew HN.out⟩, ⟨blk_drew HT.out⟩, ⟨blk_drew HPd.out⟩, ⟨Kd.C_drew HC_P.out⟩, ⟨Kd.C_drew HC_S.out⟩, ⟨Kd.C_drew HC_D.out⟩, ⟨below_drew1 HB.out⟩, ⟨blk_drew HQ.out⟩⟩
                · have hbt : (Go.bits .and .u64 (m / 2 ^ j.toNat) 1 == 1) = false := beq_eq_false_iff_ne.mpr hbm
                  clear hbm
                  go_wp2_with fail
                  refine wp_region_held_drew (S := fun w' => w'.cell? (ad.add (i.toNat * 2)) = some (.int .u64 m)) (by kernel_rfl) (by simpa using hm0) (fun hHeld => ?_)
                  refine wpAnyH_take (i := 0) (v := ?_) rfl (by kernel_rfl) (by kernel_rfl) (by kernel_rfl) (fun _ _ _ h => h) (Or.inl ⟨by rfl, ?_⟩) (by assumption) ?_
                  rotate_left
                  · intro w hSw
                    go_simp
                    with_reducible rfl
                  try simp only [List.getElem_toArray, List.getElem_cons_succ, List.getElem_cons_zero, Act.put, List.setIfInBounds_toArray, List.set_cons_zero, List.set_cons_succ]
                  refine wpAnyH_take (i := 1) (v := ?_) rfl (by kernel_rfl) (by kernel_rfl) (by kernel_rfl) (fun _ _ _ h => h) (Or.inl ⟨by rfl, ?_⟩) (by assumption) ?_
                  rotate_left
                  · intro w hSw
                    go_simp
                    with_reducible rfl
                  try simp only [List.getElem_toArray, List.getElem_cons_succ, List.getElem_cons_zero, Act.put, List.setIfInBounds_toArray, List.set_cons_zero, List.set_cons_succ]
                  refine wpAnyH_take (i := 2) (v := ?_) rfl (by kernel_rfl) (by kernel_rfl) (by kernel_rfl) (fun _ _ _ h => h) (Or.inl ⟨by rfl, ?_⟩) (by assumption) ?_
                  rotate_left
                  · intro w hSw
                    go_simp
                    with_reducible rfl
                  try simp only [List.getElem_toArray, List.getElem_cons_succ, List.getElem_cons_zero, Act.put, List.setIfInBounds_toArray, List.set_cons_zero, List.set_cons_succ]
                  refine wpAnyH_take (i := 3) (v := ?_) rfl (by kernel_rfl) (by kernel_rfl) (by kernel_rfl) (fun _ _ _ h => h) (Or.inl ⟨by rfl, ?_⟩) (by assumption) ?_
                  rotate_left
                  · intro w hSw
                    go_simp
                    with_reducible rfl
                  try simp only [List.getElem_toArray, List.getElem_cons_succ, List.getElem_cons_zero, Act.put, List.setIfInBounds_toArray, List.set_cons_zero, List.set_cons_succ]
                  refine wpAnyH_take (i := 4) (v := ?_) rfl (by kernel_rfl) (by kernel_rfl) (by kernel_rfl) (fun _ _ _ h => h) (Or.inl ⟨by rfl, ?_⟩) (by assumption) ?_
                  rotate_left
                  · intro w hSw
                    go_simp
                    with_reducible rfl
                  try simp only [List.getElem_toArray, List.getElem_cons_succ, List.getElem_cons_zero, Act.put, List.setIfInBounds_toArray, List.set_cons_zero, List.set_cons_succ]
                  refine wpAnyH_take (i := 5) (v := ?_) rfl (by kernel_rfl) (by kernel_rfl) (by kernel_rfl) (fun _ _ _ h => h) (Or.inl ⟨by rfl, ?_⟩) (by assumption) ?_
                  rotate_left
                  · intro w hSw
                    go_simp
                    with_reducible rfl
                  try simp only [List.getElem_toArray, List.getElem_cons_succ, List.getElem_cons_zero, Act.put, List.setIfInBounds_toArray, List.set_cons_zero, List.set_cons_succ]
                  refine wpAnyH_take (i := 6) (v := ?_) rfl (by kernel_rfl) (by kernel_rfl) (by kernel_rfl) (fun _ _ _ h => h) (Or.inl ⟨by rfl, ?_⟩) (by assumption) ?_
                  rotate_left
                  · intro w hSw
                    go_simp
                    with_reducible rfl
                  try simp only [List.getElem_toArray, List.getElem_cons_succ, List.getElem_cons_zero, Act.put, List.setIfInBounds_toArray, List.set_cons_zero, List.set_cons_succ]
                  refine wpAnyH_take (i := 7) (v := ?_) rfl (by kernel_rfl) (by kernel_rfl) (by kernel_rfl) (fun _ _ _ h => h) (Or.inl ⟨by rfl, ?_⟩) (by assumption) ?_
                  rotate_left
                  · intro w hSw
                    go_simp
                    with_reducible rfl
                  try simp only [List.getElem_toArray, List.getElem_cons_succ, List.getElem_cons_zero, Act.put, List.setIfInBounds_toArray, List.set_cons_zero, List.set_cons_succ]
                  refine wpAnyH_take (i := 8) (v := ?_) rfl (by kernel_rfl) (by kernel_rfl) (by kernel_rfl) (fun _ _ _ h => h) (Or.inl ⟨by rfl, ?_⟩) (by assumption) ?_
                  rotate_left
                  · intro w hSw
                    go_simp
                    with_reducible rfl
                  try simp only [List.getElem_toArray, List.getElem_cons_succ, List.getElem_cons_zero, Act.put, List.setIfInBounds_toArray, List.set_cons_zero, List.set_cons_succ]
                  refine wpAnyH_take (i := 9) (v := ?_) rfl (by kernel_rfl) (by kernel_rfl) (by kernel_rfl) (fun _ _ _ h => h) (Or.inl ⟨by rfl, ?_⟩) (by assumption) ?_
                  rotate_left
                  · intro w hSw
                    go_simp
                    with_reducible rfl
                  try simp only [List.getElem_toArray, List.getElem_cons_succ, List.getElem_cons_zero, Act.put, List.setIfInBounds_toArray, List.set_cons_zero, List.set_cons_succ]
                  refine wpAnyH_take (i := 10) (v := ?_) rfl (by kernel_rfl) (by kernel_rfl) (by kernel_rfl) (fun _ _ _ h => h) (Or.inl ⟨by rfl, ?_⟩) (by assumption) ?_
                  rotate_left
                  · intro w hSw
                    go_simp
                    with_reducible rfl
                  try simp only [List.getElem_toArray, List.getElem_cons_succ, List.getElem_cons_zero, Act.put, List.setIfInBounds_toArray, List.set_cons_zero, List.set_cons_succ]
                  refine wpAnyH_take (i := 11) (v := undef) rfl (by kernel_rfl) (by kernel_rfl) (by kernel_rfl) (fun _ _ _ h => h) (Or.inr ⟨by rfl, rfl⟩) (by assumption) ?_
                  try simp only [List.getElem_toArray, List.getElem_cons_succ, List.getElem_cons_zero, Act.put, List.setIfInBounds_toArray, List.set_cons_zero, List.set_cons_succ]
                  refine wpAnyH_take (i := 12) (v := undef) rfl (by kernel_rfl) (by kernel_rfl) (by kernel_rfl) (fun _ _ _ h => h) (Or.inr ⟨by rfl, rfl⟩) (by assumption) ?_
                  try simp only [List.getElem_toArray, List.getElem_cons_succ, List.getElem_cons_zero, Act.put, List.setIfInBounds_toArray, List.set_cons_zero, List.set_cons_succ]
                  refine wpAnyH_take (i := 13) (v := undef) rfl (by kernel_rfl) (by kernel_rfl) (by kernel_rfl) (fun _ _ _ h => h) (Or.inr ⟨by rfl, rfl⟩) (by assumption) ?_
                  try simp only [List.getElem_toArray, List.getElem_cons_succ, List.getElem_cons_zero, Act.put, List.setIfInBounds_toArray, List.set_cons_zero, List.set_cons_succ]
                  refine wpAnyH_take (i := 14) (v := undef) rfl (by kernel_rfl) (by kernel_rfl) (by kernel_rfl) (fun _ _ _ h => h) (Or.inr ⟨by rfl, rfl⟩) (by assumption) ?_
                  try simp only [List.getElem_toArray, List.getElem_cons_succ, List.getElem_cons_zero, Act.put, List.setIfInBounds_toArray, List.set_cons_zero, List.set_cons_succ]
                  refine wpAnyH_take (i := 15) (v := undef) rfl (by kernel_rfl) (by kernel_rfl) (by kernel_rfl) (fun _ _ _ h => h) (Or.inr ⟨by rfl, rfl⟩) (by assumption) ?_
                  try simp only [List.getElem_toArray, List.getElem_cons_succ, List.getElem_cons_zero, Act.put, List.setIfInBounds_toArray, List.set_cons_zero, List.set_cons_succ]
                  refine wpAnyH_take (i := 16) (v := undef) rfl (by kernel_rfl) (by kernel_rfl) (by kernel_rfl) (fun _ _ _ h => h) (Or.inr ⟨by rfl, rfl⟩) (by assumption) ?_
                  try simp only [List.getElem_toArray, List.getElem_cons_succ, List.getElem_cons_zero, Act.put, List.setIfInBounds_toArray, List.set_cons_zero, List.set_cons_succ]
                  refine wpAnyH_take (i := 17) (v := undef) rfl (by kernel_rfl) (by kernel_rfl) (by kernel_rfl) (fun _ _ _ h => h) (Or.inr ⟨by rfl, rfl⟩) (by assumption) ?_
                  try simp only [List.getElem_toArray, List.getElem_cons_succ, List.getElem_cons_zero, Act.put, List.setIfInBounds_toArray, List.set_cons_zero, List.set_cons_succ]
                  refine wpAnyH_take (i := 18) (v := ?_) rfl (by kernel_rfl) (by kernel_rfl) (by kernel_rfl) (fun _ _ _ h => h) (Or.inl ⟨by rfl, ?_⟩) (by assumption) ?_
                  rotate_left
                  · intro w hSw
                    go_simp
                    with_reducible rfl
                  try simp only [List.getElem_toArray, List.getElem_cons_succ, List.getElem_cons_zero, Act.put, List.setIfInBounds_toArray, List.set_cons_zero, List.set_cons_succ]
                  refine wpAnyH_done (by kernel_rfl) ?_ _
                  clear hHeld
                  go_wp2_with fail
                  go_roundg j1
                  case measure => omega
                  case rel => exact ⟨j + 1, _, rfl, (by first | rfl | exact congrArg (Value.int .i64) hwj), ⟨by have := HJ.out; omega⟩, ⟨blk_drew HN.out⟩, ⟨blk_drew HT.out⟩, ⟨blk_drew HPd.out⟩, ⟨Kd.C_drew HC_P.out⟩, ⟨Kd.C_drew HC_S.out⟩, ⟨Kd.C_drew HC_D.out⟩, ⟨below_drew1 HB.out⟩, ⟨blk_drew HQ.out⟩⟩
          · have hd : decide (0 < t) = false := decide_eq_false htp
            clear htp
            go_wp2_with fail
            go_roundg k1
            case measure => omega
            case rel => exact ⟨_, i + 1, _, rfl, rfl, (by first | rfl | exact congrArg (Value.int .i64) hwi), ⟨by have := HI.out; omega⟩, ⟨HOR.out⟩, HNc, HTc, HPdc, HC_Pc, HC_Sc, HC_Dc, HBc⟩
      | zero =>
        have hdec : decide (i < (DU.length : Int)) = false := decide_eq_false (by have := HI.out; omega)
        obtain rfl : a = 18446744073709551615 := by rw [HA.out, show i.toNat = DU.length by have := HI.out; omega]; exact HDA.out
        have hne : (Go.bits .xor .u64 (if IntKind.u64.signed = true then -1 else IntKind.u64.max) 18446744073709551615 != 0) = false := by decide +kernel
        go_wp2_with fail
        go_loopg [22] 64 (fun kj v22 w' => ∃ (j : Int) (V : World), V = w' ∧ v22 = .int .i64 j ∧ Aside0 (0 ≤ j ∧ j + kj = 64) ∧ Aside0 (ArrAt V w7.heap.size 39 .i16 T) ∧ Aside0 (ArrAt V w12.heap.size 39 .i16 PD) ∧ Aside0 (Kd.C k76 V A_S S.length S) ∧ Aside0 (Below w.heap.size w V))
        case atStart => exact ⟨0, _, rfl, rfl, ⟨by omega⟩, HT, HPd, HC_S, HB⟩
        case round =>
          as_aux_lemma =>
          clear HN HT HPd HC_P HC_S HC_D HB
          obtain ⟨j, V, rfl, rfl, HJ, HT, HPd, HC_S, HB⟩ := hrel
          cases gk with
          | zero =>
            have hdec2 : decide (j < 64) = false := decide_eq_false (by have := HJ.out; omega)
            go_wp2_with fail
            go_meet
            case rel => exact ⟨HC_S, HB⟩
          | succ j1 =>
            have j0 := HJ.out.1
            have hj : j < 64 := by have := HJ.out; omega
            have hdec2 : decide (j < 64) = true := decide_eq_true hj
            have hwj : wrap64 (j + 1) = j + 1 := by unfold wrap64; omega
            have c1 : V.cell? ⟨w12.heap.size, j.toNat, none⟩ = some (.int .i16 (rd PD j)) := HPd.out.cell j0 (by rw [HPDL.out]; omega)
            have c2 : V.cell? ⟨w7.heap.size, j.toNat, none⟩ = some (.int .i16 (rd T j)) := HT.out.cell j0 (by rw [HTL.out]; omega)
            have hlt : decide (rd PD j < rd T j) = false := decide_eq_false (by have := HDP.out j j0 hj; omega)
            skip
            go_wp2_with fail
            refine wp_region_held_drew (S := fun w' => w'.cell? ⟨w12.heap.size, j.toNat, none⟩ = some (.int .i16 (rd PD j)) ∧ w'.cell? ⟨w7.heap.size, j.toNat, none⟩ = some (.int .i16 (rd T j))) (by kernel_rfl) ⟨by simpa using c1, by simpa using c2⟩ (fun hHeld => ?_)
            refine wpAnyH_take (i := 0) (v := ?_) rfl (by kernel_rfl) (by kernel_rfl) (by kernel_rfl) (fun _ _ _ h => h) (Or.inl ⟨by rfl, ?_⟩) (by assumption) ?_
            rotate_left
            · intro w hSw
              go_simp
              with_reducible rfl
            try simp only [List.getElem_toArray, List.getElem_cons_succ, List.getElem_cons_zero, Act.put, List.setIfInBounds_toArray, List.set_cons_zero, List.set_cons_succ]
            refine wpAnyH_take (i := 1) (v := ?_) rfl (by kernel_rfl) (by kernel_rfl) (by kernel_rfl) (fun _ _ _ h => h) (Or.inl ⟨by rfl, ?_⟩) (by assumption) ?_
            rotate_left
            · intro w hSw
              go_simp
              with_reducible rfl
            try simp only [List.getElem_toArray, List.getElem_cons_succ, List.getElem_cons_zero, Act.put, List.setIfInBounds_toArray, List.set_cons_zero, List.set_cons_succ]
            refine wpAnyH_take (i := 2) (v := ?_) rfl (by kernel_rfl) (by kernel_rfl) (by kernel_rfl) (fun _ _ _ h => h) (Or.inl ⟨by rfl, ?_⟩) (by assumption) ?_
            rotate_left
            · intro w hSw
              go_simp
              with_reducible rfl
            try simp only [List.getElem_toArray, List.getElem_cons_succ, List.getElem_cons_zero, Act.put, List.setIfInBounds_toArray, List.set_cons_zero, List.set_cons_succ]
            refine wpAnyH_take (i := 3) (v := ?_) rfl (by kernel_rfl) (by kernel_rfl) (by kernel_rfl) (fun _ _ _ h => h) (Or.inl ⟨by rfl, ?_⟩) (by assumption) ?_
            rotate_left
            · intro w hSw
              go_simp
              with_reducible rfl
            try simp only [List.getElem_toArray, List.getElem_cons_succ, List.getElem_cons_zero, Act.put, List.setIfInBounds_toArray, List.set_cons_zero, List.set_cons_succ]
            refine wpAnyH_take (i := 4) (v := ?_) rfl (by kernel_rfl) (by kernel_rfl) (by kernel_rfl) (fun _ _ _ h => h) (Or.inl ⟨by rfl, ?_⟩) (by assumption) ?_
            rotate_left
            · intro w hSw
              go_simp
              with_reducible rfl
            try simp only [List.getElem_toArray, List.getElem_cons_succ, List.getElem_cons_zero, Act.put, List.setIfInBounds_toArray, List.set_cons_zero, List.set_cons_succ]
            refine wpAnyH_take (i := 5) (v := ?_) rfl (by kernel_rfl) (by kernel_rfl) (by kernel_rfl) (fun _ _ _ h => h) (Or.inl ⟨by rfl, ?_⟩) (by assumption) ?_
            rotate_left
            · intro w hSw
              go_simp
              with_reducible rfl
            try simp only [List.getElem_toArray, List.getElem_cons_succ, List.getElem_cons_zero, Act.put, List.setIfInBounds_toArray, List.set_cons_zero, List.set_cons_succ]
            refine wpAnyH_take (i := 6) (v := ?_) rfl (by kernel_rfl) (by kernel_rfl) (by kernel_rfl) (fun _ _ _ h => h) (Or.inl ⟨by rfl, ?_⟩) (by assumption) ?_
            rotate_left
            · intro w hSw
              go_simp
              with_reducible rfl
            try simp only [List.getElem_toArray, List.getElem_cons_succ, List.getElem_cons_zero, Act.put, List.setIfInBounds_toArray, List.set_cons_zero, List.set_cons_succ]
            refine wpAnyH_done (by kernel_rfl) ?_ _
            clear hHeld
            go_wp2_with fail
            go_roundg j1
            case measure => omega
            case rel => exact ⟨j + 1, _, rfl, (by first | rfl | exact congrArg (Value.int .i64) hwj), ⟨by have := HJ.out; omega⟩, ⟨blk_drew HT.out⟩, ⟨blk_drew HPd.out⟩, ⟨Kd.C_drew HC_S.out⟩, ⟨below_drew1 HB.out⟩⟩
  case rest =>
    skip
    clear HB_11 N_11 P_11 S_11 T_11 M_11 D_11
    obtain ⟨HC_S, HBr⟩ := hcut
    obtain ⟨LL, hLL⟩ : ∃ LL, LL = S ++ [(⟨0, 3⟩ : S76), ⟨5, 3⟩, ⟨10, 3⟩] := ⟨_, rfl⟩
    have hth := L_shorterThree (st := S) (fun x hx => by have h_ := HSX.out x hx; exact ⟨h_.1, by omega, by omega⟩) HSL.out
    rw [← hLL] at hth
    obtain ⟨q1, q2, q3, q4⟩ := hth
    obtain ⟨R, c, hRl, hRi, hRs, hRo⟩ := L_shortSteps LL (RP_8 q2.1) (by have := q2.2; omega)
    obtain ⟨hR, rfl⟩ := hRo q2
    rw [← hR] at q1 q3 q4
    have HRI := Aside0.mk hRi
    have HRS := Aside0.mk (hRs 5000 (by have := q2.2; omega))
    have HRR := Aside0.mk (RP_same R (by omega))
    obtain ⟨ZZ, hZZ⟩ : ∃ ZZ, ZZ = D_times LL := ⟨_, rfl⟩
    have HZ1 := Aside0.mk (show D_timesOn LL = (ZZ, 0) by rw [hZZ]; exact if_pos q2)
    have HZ2 := Aside0.mk (show D_timesOn R = (ZZ, 0) by rw [hZZ, ← q4]; exact if_pos q3)
    have HZL := Aside0.mk (show ZZ.length = 64 by rw [hZZ]; exact D_timesLen LL)
    have HLL := Aside0.mk hLL
    have HL2 := Aside0.mk q2
    have HR2 := Aside0.mk q3
    have HRL := Aside0.mk q1
    have HL8 := Aside0.mk (RP_8 q2.1)
    have HR8 := Aside0.mk (RP_8 q3.1)
    obtain ⟨m, hm, hmu⟩ := L_p6Mask HS1.out (n := 300) (by omega)
    obtain ⟨p3, hp3, hp3r⟩ := L_p6Pick HS1.out 30 (by omega)
    obtain ⟨h, hh, hhr⟩ := L_p6Pick HS0.out (1 + p3) (by omega)
    have HM := Aside0.mk hm
    have HMU := Aside0.mk (show U64 m from hmu)
    have HP3 := Aside0.mk hp3
    have HP3R := Aside0.mk hp3r
    have HHH := Aside0.mk hh
    have HHR := Aside0.mk hhr
    have HDG := Aside0.mk (show impl_DodgeSteps.f (1 + p3) m h = some ([⟨18446744073709551615 - m, 1 + p3⟩, ⟨m, h⟩], 0) from if_pos ⟨by omega, by omega, hmu⟩)
    have HBN := Aside0.mk (show impl_BurnSteps.f (1 + p3) m h = some ([⟨18446744073709551615, 1 + p3⟩, ⟨m, h⟩], 0) from if_pos ⟨by omega, by omega⟩)
    have hsd : D_steps [(⟨18446744073709551615 - m, 1 + p3⟩ : S76), ⟨m, h⟩] := RP_two (by omega) (by omega)
    have hsb : D_steps [(⟨18446744073709551615, 1 + p3⟩ : S76), ⟨m, h⟩] := RP_two (by omega) (by omega)
    obtain ⟨XX, hXX⟩ : ∃ XX, XX = D_light [(⟨18446744073709551615 - m, 1 + p3⟩ : S76), ⟨m, h⟩] := ⟨_, rfl⟩
    obtain ⟨YY, hYY⟩ : ∃ YY, YY = D_light [(⟨18446744073709551615, 1 + p3⟩ : S76), ⟨m, h⟩] := ⟨_, rfl⟩
    have HX1 := Aside0.mk (show D_lightOn [(⟨18446744073709551615 - m, 1 + p3⟩ : S76), ⟨m, h⟩] = (XX, 0) by rw [hXX]; exact if_pos hsd)
    have HY1 := Aside0.mk (show D_lightOn [(⟨18446744073709551615, 1 + p3⟩ : S76), ⟨m, h⟩] = (YY, 0) by rw [hYY]; exact if_pos hsb)
    have HXL := Aside0.mk (show XX.length = 64 by rw [hXX]; exact D_lightLen _)
    have HYL := Aside0.mk (show YY.length = 64 by rw [hYY]; exact D_lightLen _)
    have HXR := Aside0.mk (show ∀ j : Int, 0 ≤ j → j < 64 → rd XX j = if D_bit m j then h else 1 + p3 by rw [hXX]; exact fun j j0 j1 => L_dodged hmu (by omega) (by omega) j0 j1)
    have HYR := Aside0.mk (show ∀ j : Int, 0 ≤ j → j < 64 → 1 + p3 ≤ rd YY j ∧ (¬ D_bit m j → rd YY j = 1 + p3) by rw [hYY]; exact fun j j0 j1 => L_burnt hmu (by omega) (by omega) j0 j1)
    have HD2 := Aside0.mk (RP_8 hsd.1)
    have HB2 := Aside0.mk (RP_8 hsb.1)
    have hgt : decide ((R.length : Int) > (LL.length : Int) - 2) = false := decide_eq_false (by omega)
    have hwl : wrap64 ((LL.length : Int) - 2) = (LL.length : Int) - 2 := by have := q2.2; unfold wrap64; omega
    have hwp : wrap64 (1 + p3) = 1 + p3 := by unfold wrap64; omega
    have HGT := Aside0.mk hgt
    have HWL := Aside0.mk hwl
    have HWP := Aside0.mk hwp
    clear q1 q2 q3 q4 hR hRi hRs hRo hRl hZZ hLL hm hmu hp3 hp3r hh hhr hsd hsb hXX hYY hgt hwl hwp
    go_upto_region 39 with (first | ((with_reducible refine gate_dst (N := 222) rfl ?_); refine Kd.R_lit k76 _ 76 ?hg (N := 222) ?hd (xs := ([] : List S76)) (inner := []) (ok := fun _ => True) (okp := fun _ => True) ?hr ?hp (fun _ hk => hk) trivial (Below.refl _ _) (Nat.le_refl _) (by simp) ?_; (case hd => rfl); (case hg => rfl); (case hr => first | (go_simp; done) | (go_simp; rfl)); (case hp => exact (Reps.none _ _)); intro v222 w4 ho7 hb hg_ hnew_; clear hg_ hnew_; have HO4 := Aside0.mk ho7; have HB4 := Aside0.mk hb; clear hb ho7) | ((with_reducible refine gate_builtin (b := .append) (xs := #[.tmp 222, .tmp 223]) rfl ?_); at_builtin; refine Kd.R_append_rows k76 (w0 := wc) wc.heap.size rfl (.tmp 222) (.tmp 223) 27 76 (.agg #[(.int .u64 0), (.int .i8 0)]) 16 rfl Try.underlying27 info76 rfl (by decide) (by omega) v222 [] S _ _ _ (fun _ => True) (fun _ => False) rfl rfl ?aO ?aR (fun _ _ h => h) (fun _ h => h.elim) ?aF ?aB ?aS ?aL ?_; (case aO => exact HO4.out); (case aR => exact Kd.C_below HC_S.out HB4.out); (case aF => exact fun _ _ => trivial); (case aB => exact HB4.out); (case aS => exact Below.size HB4.out); (case aL => (simp only [List.length_nil, Nat.zero_add]; have := HSL.out; omega)); intro v224 w5 ho hb hg hat; clear hg hat; rw [List.nil_append] at ho; have HO5 := Aside0.mk ho; have HB5 := Aside0.mk hb; clear ho hb HO4 HB4) | ((with_reducible refine gate_dst (N := 228) rfl ?_); refine Kd.R_lit k76 _ 76 ?hg (N := 228) ?hd (xs := ([⟨0, 3⟩, ⟨5, 3⟩, ⟨10, 3⟩] : List S76)) (inner := [.int .u64 0, .int .i8 3, .int .u64 5, .int .i8 3, .int .u64 10, .int .i8 3]) (ok := fun _ => True) (okp := fun _ => True) ?hr ?hp (fun _ hk => hk) trivial (Below.refl _ _) (Nat.le_refl _) (by simp) ?_; (case hd => rfl); (case hg => rfl); (case hr => first | (go_simp; done) | (go_simp; rfl)); (case hp => exact (Reps.c2 (show Kd.M k76 _ _ _ (⟨0, 3⟩ : S76) [.int .u64 0, .int .i8 3] from (k76_mkM _ _ _ (⟨0, 3⟩ : S76))) (Reps.c2 (show Kd.M k76 _ _ _ (⟨5, 3⟩ : S76) [.int .u64 5, .int .i8 3] from (k76_mkM _ _ _ (⟨5, 3⟩ : S76))) (Reps.c2 (show Kd.M k76 _ _ _ (⟨10, 3⟩ : S76) [.int .u64 10, .int .i8 3] from (k76_mkM _ _ _ (⟨10, 3⟩ : S76))) (Reps.none _ _))))); intro v228 w6 ho7 hb hg_ hnew_; clear hg_ hnew_; obtain ⟨A_3, c_3, e_3⟩ := Kd.R_slice ho7; subst e_3; have HC3 := Aside0.mk (Kd.R_reads' ho7).2.2; have HO6 := Aside0.mk (Kd.R_below HO5.out hb); have HB6 := Aside0.mk (below_step HB5.out hb); clear hb ho7 HO5 HB5) | ((with_reducible refine gate_builtin (b := .append) (xs := #[.tmp 224, .tmp 228]) rfl ?_); at_builtin; refine Kd.R_append_rows k76 (w0 := wc) wc.heap.size rfl (.tmp 224) (.tmp 228) 27 76 (.agg #[(.int .u64 0), (.int .i8 0)]) 16 rfl Try.underlying27 info76 rfl (by decide) (by omega) v224 S [⟨0, 3⟩, ⟨5, 3⟩, ⟨10, 3⟩] _ _ _ (fun _ => True) (fun _ => False) rfl rfl ?aO ?aR (fun _ _ h => h) (fun _ h => h.elim) ?aF ?aB ?aS ?aL ?_; (case aO => exact HO6.out); (case aR => exact HC3.out); (case aF => exact fun _ _ => trivial); (case aB => exact HB6.out); (case aS => exact Below.size HB6.out); (case aL => (have := HSL.out; simp; omega)); intro v229 w7_ ho hb hg hat; clear hg hat; rw [← HLL.out] at ho; have HO7 := Aside0.mk ho; have HB7 := Aside0.mk hb; clear ho hb HO6 HB6))
    obtain ⟨A_L, c_L, e_L⟩ := Kd.R_slice HO7.out
    subst e_L
    have HC_L := Aside0.mk (Kd.R_reads' HO7.out).2.2
    have HL_c := Aside0.mk (Kd.R_reads' HO7.out).2.1
    have HBL := Aside0.mk (below_step HBr.out HB7.out)
    clear HO7 HB7 HC_S HBr
    go_wp2_with fail
    refine (impl_ShorterSteps.calls _ _ LL R 0 _ HC_L.out HL_c.out HRI.out).mono ?_
    rintro e w41 ⟨v_R1, rfl, ho, hb⟩
    obtain ⟨A_R1, c_R1, e_R1⟩ := Kd.R_slice ho
    subst e_R1
    have R1_r := Aside0.mk (Kd.R_reads' ho).2.2
    have R1_c := Aside0.mk (Kd.R_reads' ho).2.1
    clear ho
    have L_41 := Aside0.mk (Kd.C_below HC_L.out hb)
    have HB_41 := Aside0.mk (below_step HBL.out hb)
    clear hb HC_L HBL
    go_wp2_with fail
    refine (spec_ShorterSteps.calls 5000 _ _ LL R 0 _ L_41.out HL_c.out HRS.out).mono ?_
    rintro e w42 ⟨v_R2, rfl, ho, hb⟩
    obtain ⟨A_R2, c_R2, e_R2⟩ := Kd.R_slice ho
    subst e_R2
    have R2_r := Aside0.mk (Kd.R_reads' ho).2.2
    have R2_c := Aside0.mk (Kd.R_reads' ho).2.1
    clear ho
    have L_42 := Aside0.mk (Kd.C_below L_41.out hb)
    have HB_42 := Aside0.mk (below_step HB_41.out hb)
    have R1_42 := Aside0.mk (Kd.C_below R1_r.out hb)
    clear hb L_41 HB_41 R1_r
    go_wp2_with fail
    refine (impl_TimesOn.arr _ _ LL _ L_42.out HL_c.out HL8.out (by have := HL2.out.2; omega)).mono ?_
    rintro e w43 ⟨rfl, hb⟩
    rw [HZ1.out]
    have L_43 := Aside0.mk (Kd.C_below L_42.out hb)
    have HB_43 := Aside0.mk (below_step HB_42.out hb)
    have R1_43 := Aside0.mk (Kd.C_below R1_42.out hb)
    have R2_43 := Aside0.mk (Kd.C_below R2_r.out hb)
    clear hb L_42 HB_42 R1_42 R2_r
    have Z1_n := Aside0.mk (ArrAt.new w43 24 .i64 (zer 64))
    have Z1_0 := Aside0.mk (Z1_n.out.row (ys := ZZ))
    have hba := below_row (below_alloc (Below.refl w43.heap.size w43) (.cells (nums .i64 (zer 64)).toArray 24)) (Nat.le_refl w43.heap.size) (nums .i64 ZZ).toArray
    have L_44 := Aside0.mk (Kd.C_below L_43.out hba)
    have HB_44 := Aside0.mk (below_step HB_43.out hba)
    have R1_44 := Aside0.mk (Kd.C_below R1_43.out hba)
    have R2_44 := Aside0.mk (Kd.C_below R2_43.out hba)
    clear hba L_43 HB_43 R1_43 R2_43
    go_wp2_with (first | (refine arr_store rfl 24 _ _ rfl w43.heap.size .i64 ZZ rfl rfl 24 (zer 64) Z1_n.out 64 (by kernel_rfl) (zer_len 64) HZL.out ?_) | (refine arr_load rfl 24 _ rfl w43.heap.size rfl 24 .i64 ZZ Z1_0.out _ Try.underlying24 rfl 64 (by kernel_rfl) HZL.out ?_))
    refine (impl_TimesOn.arr _ _ R _ R2_44.out R2_c.out HR8.out (by have := HR2.out.2; omega)).mono ?_
    rintro e w45 ⟨rfl, hb⟩
    rw [HZ2.out]
    have L_45 := Aside0.mk (Kd.C_below L_44.out hb)
    have HB_45 := Aside0.mk (below_step HB_44.out hb)
    have R1_45 := Aside0.mk (Kd.C_below R1_44.out hb)
    have R2_45 := Aside0.mk (Kd.C_below R2_44.out hb)
    have Z1_45 := Aside0.mk (ArrAt.below Z1_0.out hb)
    clear hb L_44 HB_44 R1_44 R2_44 Z1_0
    have Z2_n := Aside0.mk (ArrAt.new w45 24 .i64 (zer 64))
    have Z2_0 := Aside0.mk (Z2_n.out.row (ys := ZZ))
    have hba := below_row (below_alloc (Below.refl w45.heap.size w45) (.cells (nums .i64 (zer 64)).toArray 24)) (Nat.le_refl w45.heap.size) (nums .i64 ZZ).toArray
    have L_46 := Aside0.mk (Kd.C_below L_45.out hba)
    have HB_46 := Aside0.mk (below_step HB_45.out hba)
    have R1_46 := Aside0.mk (Kd.C_below R1_45.out hba)
    have R2_46 := Aside0.mk (Kd.C_below R2_45.out hba)
    have Z1_46 := Aside0.mk (ArrAt.below Z1_45.out hba)
    clear hba L_45 HB_45 R1_45 R2_45 Z1_45
    go_wp2_with (first | (refine arr_store rfl 24 _ _ rfl w45.heap.size .i64 ZZ rfl rfl 24 (zer 64) Z2_n.out 64 (by kernel_rfl) (zer_len 64) HZL.out ?_))
    refine (spec_SameSteps.calls _ _ _ R _ _ R true _ R1_46.out R1_c.out R2_46.out R2_c.out HRR.out).mono ?_
    rintro e w47 ⟨rfl, hb⟩
    have L_47 := Aside0.mk (Kd.C_below L_46.out hb.below)
    have HB_47 := Aside0.mk (below_step HB_46.out hb.below)
    have R1_47 := Aside0.mk (Kd.C_below R1_46.out hb.below)
    have R2_47 := Aside0.mk (Kd.C_below R2_46.out hb.below)
    have Z1_47 := Aside0.mk (ArrAt.below Z1_46.out hb.below)
    have Z2_47 := Aside0.mk (ArrAt.below Z2_0.out hb.below)
    clear hb L_46 HB_46 R1_46 R2_46 Z1_46 Z2_0
    have qZ := eq_t64 ZZ HZL.out
    have hgt := HGT.out
    have hwl := HWL.out
    have hwp := HWP.out
    go_wp2_with (first | (refine arr_loadG (by rfl) 24 _ rfl w43.heap.size rfl 24 .i64 ZZ Z1_47.out _ Try.underlying24 rfl 64 (by kernel_rfl) HZL.out ?_) | (refine arr_loadG (by rfl) 24 _ rfl w45.heap.size rfl 24 .i64 ZZ Z2_47.out _ Try.underlying24 rfl 64 (by kernel_rfl) HZL.out ?_))
    clear qZ hgt hwl
    refine (spec_P6Mask.calls 300 _ _ l1 m _ (Kd.C_below HR1.out HB_47.out) HC1.out HM.out).mono ?_
    rintro e w48 ⟨rfl, hb⟩
    clear Z1_47
    clear Z2_47
    clear R1_47
    clear R2_47
    clear L_47
    have HB_48 := Aside0.mk (below_step HB_47.out hb)
    clear hb HB_47
    go_wp2_with fail
    refine (spec_P6Pick.calls _ _ l1 30 p3 _ (Kd.C_below HR1.out HB_48.out) HC1.out HP3.out).mono ?_
    rintro e w49 ⟨rfl, hb⟩
    have HB_49 := Aside0.mk (below_step HB_48.out hb)
    clear hb HB_48
    go_wp2_with fail
    refine (spec_P6Pick.calls _ _ l0 (1 + p3) h _ (Kd.C_below HR0.out HB_49.out) HC0.out HHH.out).mono ?_
    rintro e w50 ⟨rfl, hb⟩
    have HB_50 := Aside0.mk (below_step HB_49.out hb)
    clear hb HB_49
    go_wp2_with fail
    refine (impl_DodgeSteps.calls (1 + p3) m h _ 0 _ HDG.out).mono ?_
    rintro e w51 ⟨v_DG, rfl, ho, hb⟩
    obtain ⟨A_DG, c_DG, e_DG⟩ := Kd.R_slice ho
    subst e_DG
    have DG_r := Aside0.mk (Kd.R_reads' ho).2.2
    have DG_c := Aside0.mk (Kd.R_reads' ho).2.1
    clear ho
    have HB_51 := Aside0.mk (below_step HB_50.out hb)
    clear hb HB_50
    go_wp2_with fail
    refine (impl_BurnSteps.calls (1 + p3) m h _ 0 _ HBN.out).mono ?_
    rintro e w52 ⟨v_BN, rfl, ho, hb⟩
    obtain ⟨A_BN, c_BN, e_BN⟩ := Kd.R_slice ho
    subst e_BN
    have BN_r := Aside0.mk (Kd.R_reads' ho).2.2
    have BN_c := Aside0.mk (Kd.R_reads' ho).2.1
    clear ho
    have HB_52 := Aside0.mk (below_step HB_51.out hb)
    have DG_52 := Aside0.mk (Kd.C_below DG_r.out hb)
    clear hb HB_51 DG_r
    go_wp2_with fail
    refine (impl_LightOn.arr _ _ _ _ DG_52.out DG_c.out HD2.out (by simp)).mono ?_
    rintro e w53 ⟨rfl, hb⟩
    rw [HX1.out]
    have HB_53 := Aside0.mk (below_step HB_52.out hb)
    have DG_53 := Aside0.mk (Kd.C_below DG_52.out hb)
    have BN_53 := Aside0.mk (Kd.C_below BN_r.out hb)
    clear hb HB_52 DG_52 BN_r
    have X_n := Aside0.mk (ArrAt.new w53 24 .i64 (zer 64))
    have X_0 := Aside0.mk (X_n.out.row (ys := XX))
    have hba := below_row (below_alloc (Below.refl w53.heap.size w53) (.cells (nums .i64 (zer 64)).toArray 24)) (Nat.le_refl w53.heap.size) (nums .i64 XX).toArray
    have HB_54 := Aside0.mk (below_step HB_53.out hba)
    have DG_54 := Aside0.mk (Kd.C_below DG_53.out hba)
    have BN_54 := Aside0.mk (Kd.C_below BN_53.out hba)
    clear hba HB_53 DG_53 BN_53
    go_wp2_with (first | (refine arr_store rfl 24 _ _ rfl w53.heap.size .i64 XX rfl rfl 24 (zer 64) X_n.out 64 (by kernel_rfl) (zer_len 64) HXL.out ?_) | (refine arr_load rfl 24 _ rfl w53.heap.size rfl 24 .i64 XX X_0.out _ Try.underlying24 rfl 64 (by kernel_rfl) HXL.out ?_))
    refine (impl_LightOn.arr _ _ _ _ BN_54.out BN_c.out HB2.out (by simp)).mono ?_
    rintro e w55 ⟨rfl, hb⟩
    rw [HY1.out]
    have HB_55 := Aside0.mk (below_step HB_54.out hb)
    have DG_55 := Aside0.mk (Kd.C_below DG_54.out hb)
    have BN_55 := Aside0.mk (Kd.C_below BN_54.out hb)
    have X_55 := Aside0.mk (ArrAt.below X_0.out hb)
    clear hb HB_54 DG_54 BN_54 X_0
    have Y_n := Aside0.mk (ArrAt.new w55 24 .i64 (zer 64))
    have Y_0 := Aside0.mk (Y_n.out.row (ys := YY))
    have hba := below_row (below_alloc (Below.refl w55.heap.size w55) (.cells (nums .i64 (zer 64)).toArray 24)) (Nat.le_refl w55.heap.size) (nums .i64 YY).toArray
    have HB_56 := Aside0.mk (below_step HB_55.out hba)
    have DG_56 := Aside0.mk (Kd.C_below DG_55.out hba)
    have BN_56 := Aside0.mk (Kd.C_below BN_55.out hba)
    have X_56 := Aside0.mk (ArrAt.below X_55.out hba)
    clear hba HB_55 DG_55 BN_55 X_55
    go_wp2_with (first | (refine arr_store rfl 24 _ _ rfl w55.heap.size .i64 YY rfl rfl 24 (zer 64) Y_n.out 64 (by kernel_rfl) (zer_len 64) HYL.out ?_))
    go_loopg [43] 64 (fun kj v43 w' => ∃ (j : Int) (V : World), V = w' ∧ v43 = .int .i64 j ∧ Aside0 (0 ≤ j ∧ j + kj = 64) ∧ Aside0 (ArrAt V w53.heap.size 24 .i64 XX) ∧ Aside0 (ArrAt V w55.heap.size 24 .i64 YY) ∧ Aside0 (Below w.heap.size w V))
    case atStart => exact ⟨0, _, rfl, rfl, ⟨by omega⟩, X_56, Y_0, HB_56⟩
    case round =>
      as_aux_lemma =>
      clear HB_56 DG_56 BN_56 X_56 Y_0
      obtain ⟨j, V, rfl, rfl, HJ, HXA2, HYA2, HBE⟩ := hrel
      cases gk with
      | zero =>
        have hdec2 : decide (j < 64) = false := decide_eq_false (by have := HJ.out; omega)
        go_wp2_with fail
        go_ret
        exact ⟨rfl, HBE.out⟩
      | succ j1 =>
        have j0 := HJ.out.1
        have hj : j < 64 := by have := HJ.out; omega
        have hdec2 : decide (j < 64) = true := decide_eq_true hj
        have hju : IntKind.u64.wrap j = j := by simp [IntKind.wrap, IntKind.bits, IntKind.signed]; omega
        have hwj : wrap64 (j + 1) = j + 1 := by unfold wrap64; omega
        have c1 : V.cell? ⟨w53.heap.size, j.toNat, none⟩ = some (.int .i64 (rd XX j)) := HXA2.out.cell j0 (by rw [HXL.out]; omega)
        have c2 : V.cell? ⟨w55.heap.size, j.toNat, none⟩ = some (.int .i64 (rd YY j)) := HYA2.out.cell j0 (by rw [HYL.out]; omega)
        have hxr := HXR.out j j0 hj
        have hyr := HYR.out j j0 hj
        by_cases hbm : D_bit m j
        · have hbt : (Go.bits .and .u64 (m / 2 ^ j.toNat) 1 == 1) = true := beq_iff_eq.mpr hbm
          rw [if_pos hbm] at hxr
          have t1 : (rd XX j != h) = false := by rw [hxr]; simp
          have t2 : decide (rd YY j < 1 + p3) = false := decide_eq_false (by omega)
          clear hbm hxr hyr
          go_wp2_with fail
          go_roundg j1
          case measure => omega
          case rel => exact ⟨j + 1, _, rfl, (by first | rfl | exact congrArg (Value.int .i64) hwj), ⟨by have := HJ.out; omega⟩, HXA2, HYA2, HBE⟩
        · have hbt : (Go.bits .and .u64 (m / 2 ^ j.toNat) 1 == 1) = false := beq_eq_false_iff_ne.mpr hbm
          rw [if_neg hbm] at hxr
          have t1 : (rd XX j != 1 + p3) = false := by rw [hxr]; simp
          have t2 : (rd YY j != 1 + p3) = false := by rw [hyr.2 hbm]; simp
          clear hbm hxr hyr
          go_wp2_with fail
          go_roundg j1
          case measure => omega
          case rel => exact ⟨j + 1, _, rfl, (by first | rfl | exact congrArg (Value.int .i64) hwj), ⟨by have := HJ.out; omega⟩, HXA2, HYA2, HBE⟩
set_option maxHeartbeats 8000000 in
set_option maxRecDepth 100000 in
theorem laws_FnReachedPrints.arr (w : World) (A0 : Option Addr) (c0 : Nat) (l0 : List Int) (hr0 : Kd.C (Kd.int .u8) w A0 l0.length l0) (hc0 : l0.length ≤ c0) (hs0 : ∀ x ∈ l0, 0 ≤ x ∧ x ≤ 255) (yy0 : l0.length * 1 ≤ 140737488351232) (A1 : Option Addr) (c1 : Nat) (l1 : List Int) (hr1 : Kd.C (Kd.int .u8) w A1 l1.length l1) (hc1 : l1.length ≤ c1) (hs1 : ∀ x ∈ l1, 0 ≤ x ∧ x ≤ 255) (yy1 : l1.length * 1 ≤ 140737488351232) :
    Calls Try.prog 9 #[.slice A0 l0.length c0, .slice A1 l1.length c1] w fun e w' => e = .returned (.bool true) ∧ Below w.heap.size w w' := by
  by_cases h0 : l0.length ≤ 4096
  · by_cases h1 : l1.length ≤ 4096
    · exact laws_FnReachedPrints.walk A0 c0 l0 A1 c1 l1 w hr0 hc0 hs0 hr1 hc1 hs1 h0 h1
    · have HF0 := Aside0.mk (show laws_f6big.f l0 = some false by unfold laws_f6big.f; rw [decide_eq_false (by omega)])
      have HF1 := Aside0.mk (show laws_f6big.f l1 = some true by unfold laws_f6big.f; rw [decide_eq_true (by omega)])
      have HR0 := Aside0.mk hr0
      have HR1 := Aside0.mk hr1
      have HC0 := Aside0.mk hc0
      have HC1 := Aside0.mk hc1
      clear hr0 hr1 hc0 hc1 h0 h1 yy0 yy1 hs0 hs1
      go_enter Try.func9, Try.ntmps9
      go_wp2_with fail
      refine (laws_f6big.calls _ _ l0 false _ HR0.out HC0.out HF0.out).mono ?_
      rintro e w1 ⟨rfl, hb⟩
      have HB := Aside0.mk hb.below
      clear hb
      go_wp2_with fail
      refine (laws_f6big.calls _ _ l1 true _ (Kd.C_below HR1.out HB.out) HC1.out HF1.out).mono ?_
      rintro e w2 ⟨rfl, hb⟩
      have HB2 := Aside0.mk (below_step HB.out hb.below)
      clear hb HB
      go_wp2_with fail
      go_ret
      exact ⟨rfl, HB2.out⟩
  · have HF0 := Aside0.mk (show laws_f6big.f l0 = some true by unfold laws_f6big.f; rw [decide_eq_true (by omega)])
    have HR0 := Aside0.mk hr0
    have HC0 := Aside0.mk hc0
    clear hr0 hr1 hc0 hc1 h0 yy0 yy1 hs0 hs1
    go_enter Try.func9, Try.ntmps9
    go_wp2_with fail
    refine (laws_f6big.calls _ _ l0 true _ HR0.out HC0.out HF0.out).mono ?_
    rintro e w1 ⟨rfl, hb⟩
    have HB := Aside0.mk hb.below
    clear hb
    go_wp2_with fail
    go_ret
    exact ⟨rfl, HB.out⟩
end Go.Proofs.Yticnajjbmdfidaa.Q
