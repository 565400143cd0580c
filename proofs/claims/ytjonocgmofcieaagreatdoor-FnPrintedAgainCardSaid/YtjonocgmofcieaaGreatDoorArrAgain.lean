-- The law of prints that are made again.
import Derived.Test.YtjonocgmofcieaaGreatDoorQx13
import Derived.Test.YtjonocgmofcieaaGreatDoorQx14
import Derived.Test.YtjonocgmofcieaaGreatDoorQx15
import Derived.Test.YtjonocgmofcieaaGreatDoorQx4
import Derived.Test.YtjonocgmofcieaaGreatDoorQx5
import Derived.Test.YtjonocgmofcieaaGreatDoorArrCells
import Derived.Test.YtjonocgmofcieaaGreatDoorArrTimes
import Derived.Test.YtjonocgmofcieaaGreatDoorArrFrom
import Derived.Test.YtjonocgmofcieaaGreatDoorArrPL
import Derived.Test.YtjonocgmofcieaaGreatDoorArrKit
import Derived.Deep.DeepCutAuto
namespace Go.Proofs.YtjonocgmofcieaaGreatDoor.Q
open Go.RowKit Go.Proofs.YtjonocgmofcieaaGreatDoor.PL Go.Proofs.YtjonocgmofcieaaGreatDoorW.PrintWords Go.Proofs.YtjonocgmofcieaaGreatDoorW.PrintLast Go.Proofs.YtjonocgmofcieaaGreatDoorW.PrintMore
attribute [local go_sem] max2_int min2_int max_two min_two max_three min_three max_four min_four
set_option linter.unusedVariables false
set_option linter.unusedSimpArgs false
theorem RA_16 {xs : List Int} (h : ∀ x ∈ xs, 0 ≤ x ∧ x ≤ 400) : ∀ x ∈ xs, -32768 ≤ x ∧ x ≤ 32767 := fun x hx => by have := h x hx; omega
theorem RA_8 {l : List S55} (h : ∀ x ∈ l, 0 ≤ x.f1 ∧ x.f1 ≤ 36) : D_i8s l := fun x hx => by have := h x hx; omega
theorem RA_perm {xs : List Int} (hl : xs.length = 64) (h : ∀ x ∈ xs, 0 ≤ x ∧ x ≤ 400) : ∀ x ∈ perm 64 p_mir xs, 0 ≤ x ∧ x ≤ 400 := by
  intro x hx
  obtain ⟨k, hk, rfl⟩ := List.mem_map.1 hx
  have hk2 := List.mem_range.1 hk
  exact arr_rd (P := fun x => 0 ≤ x ∧ x ≤ 400) h (by unfold p_mir; omega) (by unfold p_mir; rw [hl]; omega)
theorem eq_t64 (xs : List Int) (hl : xs.length = 64) (w : World) : (Op.equalIn 10000 40 (.agg (nums .i64 xs).toArray) (.agg (nums .i64 xs).toArray)).run Tryz.prog w = .ok true w := by
  obtain ⟨i, hi⟩ := info_of_underlying Tryz.underlying2
  exact run_eqArr Tryz.underlying40 hi (by kernel_rfl) Tryz.isAgg2 Tryz.underlying2 xs hl w
theorem ra_region {P : Program} {ops : Array Oper} {Q : Exit → Act → World → Prop} {id : Nat} {a : Act} {w : World} {S : World → Prop} (hm : P.follows .mixedOrders = true) (hS : S w.drew) (h : ∀ V : World, S V → wpAnyH P .any ops Q S ops.size (Array.replicate ops.size false) a V) : (Code.region id ops true).wp P Q a w := wp_region_held_drew hm hS (fun hs => h _ hs)
theorem ra_store {P : Program} {o : Oper} {a : Act} {W : World} {K : Act → World → Prop} {Q : Exit → Act → World → Prop} (ty : TypeId) (x y : Operand) (ho : o.op = .store ty x y) (g : Nat) (k : IntKind) (ys : List Int) (hx : a.eval x = .pointer (some ⟨g, 0, none⟩)) (hy : a.eval y = .agg (nums k ys).toArray)
    (T : TypeId) (xs : List Int) (hA : ArrAt W g T k xs) (n : Nat) (hi : (P.info? ty).map (·.size) = some n) (hn : xs.length = n) (hm : ys.length = n)
    (h : K (a.put o.dst undef) (W.setRow g (nums k ys).toArray)) : o.wp P a W K Q :=
  wp_store_row ty x y ho g _ hx hy T _ hA (by rw [hi, ← hm]; simp [nums]) (by simp [nums, hn, hm]) (by simp [nums]; intros; rfl) h
theorem RA_eqRun (R : List S55) (hR : R.length ≤ 1000000) (e : Nat) : ∀ (k : Nat) (i : Int), 0 ≤ i → i + e = R.length → e < k → impl_Step_54.l0 k R R (R.length : Int) i = some true := by
  induction e with
  | zero =>
    intro k i h0 h1 hk
    obtain ⟨k, rfl⟩ : ∃ q, k = q + 1 := ⟨k - 1, by omega⟩
    simp only [impl_Step_54.l0]
    rw [if_neg (by omega)]
  | succ e ih =>
    intro k i h0 h1 hk
    obtain ⟨k, rfl⟩ : ∃ q, k = q + 1 := ⟨k - 1, by omega⟩
    simp only [impl_Step_54.l0]
    rw [if_pos (by omega), if_pos h0, if_pos (by omega), if_pos (by omega), if_neg (by simp), show wrap64 (i + 1) = i + 1 by unfold wrap64; omega]
    exact ih k (i + 1) (by omega) (by omega) (by omega)
theorem RA_same (R : List S55) (hR : R.length ≤ 1000000) : impl_SameSteps.f (R.length + 1) R R = some true := by
  unfold impl_SameSteps.f impl_Step_54.f
  rw [if_pos rfl, RA_eqRun R hR R.length _ 0 (by omega) (by omega) (by omega)]
  rfl
set_option maxHeartbeats 8000000 in
set_option maxRecDepth 100000 in
theorem laws_FnPrintedAgain.walk (A0 : Option Addr) (c0 : Nat) (l0 : List Int) (A1 : Option Addr) (c1 : Nat) (l1 : List Int) (w : World) (hr0 : Kd.C (Kd.int .u8) w A0 l0.length l0) (hc0 : l0.length ≤ c0) (hs0 : ∀ x ∈ l0, 0 ≤ x ∧ x ≤ 255) (hr1 : Kd.C (Kd.int .u8) w A1 l1.length l1) (hc1 : l1.length ≤ c1) (hs1 : ∀ x ∈ l1, 0 ≤ x ∧ x ≤ 255) (hf0 : l0.length ≤ 4096) (hf1 : l1.length ≤ 4096) (hT : Tab10 w) :
    Calls Tryz.prog 3 #[.slice A0 l0.length c0, .slice A1 l1.length c1] w fun e w' => e = .returned (.bool true) ∧ Below w.heap.size w w' := by
  have HC0 := Aside0.mk hc0
  have HC1 := Aside0.mk hc1
  have HS0 := Aside0.mk hs0
  have HS1 := Aside0.mk hs1
  have HR0 := Aside0.mk hr0
  have HR1 := Aside0.mk hr1
  have HTB := Aside0.mk hT
  have HB := Aside0.mk (Below.refl w.heap.size w)
  have HF0 := Aside0.mk (show laws_f6big.f l0 = some false by unfold laws_f6big.f; rw [decide_eq_false (by omega)])
  have HF1 := Aside0.mk (show laws_f6big.f l1 = some false by unfold laws_f6big.f; rw [decide_eq_false (by omega)])
  obtain ⟨P, hP, hPc, hPi, hPl⟩ := L_paperDrawn hs1 (n := 300) (by omega)
  obtain ⟨S, hS, hSl, hSx⟩ := L_p6Steps hs1 (n := 300) (by omega)
  obtain ⟨m, hm, hmu⟩ := L_p6Mask hs0 (n := 300) (by omega)
  obtain ⟨t, ht, htr⟩ := L_p6Pick hs0 20 (by omega)
  have HP := Aside0.mk hP
  have HPC := Aside0.mk hPc
  have HPI := Aside0.mk hPi
  have HPX := Aside0.mk hPl
  have HPL := Aside0.mk (show P.length ≤ 140737488351232 by omega)
  have HSS := Aside0.mk hS
  have HSL := Aside0.mk hSl
  have HSX := Aside0.mk hSx
  have HM := Aside0.mk hm
  have HMU := Aside0.mk hmu
  have HTT := Aside0.mk ht
  have HTR := Aside0.mk htr
  have HS8 := Aside0.mk (show D_i8s S from fun x hx => by have := hSx x hx; omega)
  have HSN := Aside0.mk (show S.length ≤ 140737488351232 by omega)
  clear hP hPc hPi hPl hS hSl hSx hr0 hc0 hs0 hr1 hc1 hs1 hf0 hf1 hm hmu ht htr hT
  go_enter Tryz.func3, Tryz.ntmps3
  go_wp2_with fail
  refine (laws_f6big.calls _ _ l0 false _ (Kd.C_below HR0.out HB.out) HC0.out HF0.out).mono ?_
  rintro e w1 ⟨rfl, hb⟩
  have HB_1 := Aside0.mk (below_step HB.out hb.below)
  clear hb HB
  go_wp2_with fail
  refine (laws_f6big.calls _ _ l1 false _ (Kd.C_below HR1.out HB_1.out) HC1.out HF1.out).mono ?_
  rintro e w2 ⟨rfl, hb⟩
  have HB_2 := Aside0.mk (below_step HB_1.out hb.below)
  clear hb HB_1
  go_wp2_with fail
  refine (spec_P6Negative.arr _ _ l0 _ (Kd.C_below HR0.out HB_2.out) HC0.out HS0.out).mono ?_
  rintro e w3 ⟨xs, rfl, hxl, hxa, hb⟩
  have HX := Aside0.mk hxl
  have HXA := Aside0.mk hxa
  obtain ⟨a1, a2, a3, a4⟩ := L_again (m := m) (t := t) hxa hxl HPC.out HSL.out (fun x hx => HSX.out x hx) HTR.out
  obtain ⟨e1, e2⟩ := L_everyOk P S ⟨HPC.out, a1, fun x hx => (HSX.out x hx).1⟩
  have hMR := L_mirStepsOk S a1 (k := 4000) (by have := HSL.out; omega)
  have hd1 : D_dense (D_from xs P S) := D_fromDense hxa hxl HPC.out S
  have hd2 : D_dense (perm 64 p_mir xs) := RA_perm hxl hxa
  have hp1 : D_printFrom xs P S = (D_from xs P S, 0) := if_pos ⟨hxa, HPC.out, a1⟩
  obtain ⟨B, hB⟩ : ∃ B, B = S ++ [(⟨m, t⟩ : S55)] := ⟨_, rfl⟩
  rw [← hB] at a2 a4
  have hp2 : D_printFrom xs P B = (D_from xs P B, 0) := if_pos ⟨hxa, HPC.out, a2⟩
  obtain ⟨M, hM⟩ : ∃ M, M = S.map D_mirStep := ⟨_, rfl⟩
  rw [← hM] at a3 a4 hMR
  obtain ⟨E, hE⟩ : ∃ E, E = perm 64 p_mir xs := ⟨_, rfl⟩
  rw [← hE] at a4 hd2
  have hp3 : D_printFrom E P M = (D_from E P M, 0) := if_pos ⟨hd2, HPC.out, a3⟩
  have HEL := Aside0.mk (show E.length = 64 by rw [hE]; exact perm_len _ _ _)
  have HMV := Aside0.mk (show D_moved p_mir xs = (E, 0) by rw [hE]; exact if_pos hxa)
  have HE16 := Aside0.mk (RA_16 (xs := E) hd2)
  have hrd : D_redo xs P S 0 = (D_from xs P S, 0) := (if_pos hxa).trans (if_pos rfl)
  have hto : D_timesOn S = (D_times S, 0) := if_pos a1
  have hlon : D_lightOn S = (D_light S, 0) := if_pos a1
  have hrg : D_range (D_from xs P S) = (D_low (D_from xs P S), D_high (D_from xs P S), 0) := if_pos hd1
  have hlh := L_lowHigh (D_from xs P S)
  have HTL := Aside0.mk (D_fromLen xs P S)
  have HTBL := Aside0.mk (D_fromLen xs P B)
  have HTML := Aside0.mk (D_fromLen E P M)
  have HTTL := Aside0.mk (D_timesLen S)
  have HLTL := Aside0.mk (D_lightLen S)
  obtain ⟨T, hT⟩ : ∃ T, T = D_from xs P S := ⟨_, rfl⟩
  rw [← hT] at a4 hd1 hp1 hrd hrg hlh HTL
  obtain ⟨TB, hTB⟩ : ∃ TB, TB = D_from xs P B := ⟨_, rfl⟩
  rw [← hTB] at a4 hp2 HTBL
  obtain ⟨TM, hTM⟩ : ∃ TM, TM = D_from E P M := ⟨_, rfl⟩
  rw [← hTM] at a4 hp3 HTML
  obtain ⟨TT, hTT⟩ : ∃ TT, TT = D_times S := ⟨_, rfl⟩
  rw [← hTT] at a4 hto HTTL
  obtain ⟨LT, hLT⟩ : ∃ LT, LT = D_light S := ⟨_, rfl⟩
  rw [← hLT] at a4 hlon HLTL
  obtain ⟨lo, hlo⟩ : ∃ lo, lo = D_low T := ⟨_, rfl⟩
  rw [← hlo] at hrg hlh
  obtain ⟨hi, hhi⟩ : ∃ hi, hi = D_high T := ⟨_, rfl⟩
  rw [← hhi] at hrg hlh
  obtain ⟨X, hX⟩ : ∃ X, X = D_mk (D_TL P S) := ⟨_, rfl⟩
  rw [← hX] at e1 e2
  have HLT := Aside0.mk e1
  have HRT := Aside0.mk e2
  have HMR := Aside0.mk hMR
  have HP1 := Aside0.mk hp1
  have HP2 := Aside0.mk hp2
  have HP3 := Aside0.mk hp3
  have HRD := Aside0.mk hrd
  have HTO := Aside0.mk hto
  have HLO := Aside0.mk hlon
  have HRG := Aside0.mk hrg
  have HLH := Aside0.mk hlh
  have HA4 := Aside0.mk a4
  have HOK := Aside0.mk (show D_curve P = true ∧ D_steps S from ⟨HPC.out, a1⟩)
  have HT16 := Aside0.mk (RA_16 (xs := T) hd1)
  have HTD := Aside0.mk hd1
  have HB8 := Aside0.mk (RA_8 a2.1)
  have HBN := Aside0.mk (show B.length ≤ 140737488351232 by have := a2.2; omega)
  have HM8 := Aside0.mk (RA_8 a3.1)
  have HMN := Aside0.mk (show M.length ≤ 140737488351232 by have := a3.2; omega)
  have HBE := Aside0.mk hB
  have HDX := Aside0.mk (show decide (D_dense xs) = true from decide_eq_true hxa)
  have HDT := Aside0.mk (show decide (D_dense T) = true from decide_eq_true hd1)
  have HVS := Aside0.mk (show impl_ValidSteps.f S = some true by rw [L_implSteps S (RA_8 a1.1), decide_eq_true a1])
  have HSC := Aside0.mk (L_sameCurveOk P (by have := HPX.out; omega))
  have HSG := Aside0.mk (L_sameStepsOk S (by have := HSL.out; omega))
  have HIG := Aside0.mk (RA_same S (by have := HSL.out; omega))
  clear hxl hxa a1 a2 a3 a4 e1 e2 hMR hd1 hd2 hp1 hp2 hp3 hrd hto hlon hrg hlh hB hM hE hT hTB hTM hTT hLT hlo hhi hX
  have HB_3 := Aside0.mk (below_step HB_2.out hb)
  clear hb HB_2
  have N_n := Aside0.mk (ArrAt.new w3 26 .i16 (zer 64))
  have N_0 := Aside0.mk (N_n.out.row (ys := xs))
  have hba := below_row (below_alloc (Below.refl w3.heap.size w3) (.cells (nums .i16 (zer 64)).toArray 26)) (Nat.le_refl w3.heap.size) (nums .i16 xs).toArray
  have HB_4 := Aside0.mk (below_step HB_3.out hba)
  clear hba HB_3
  go_wp2_with (first | (refine arr_store rfl 26 _ _ rfl w3.heap.size .i16 xs rfl rfl 26 (zer 64) N_n.out 64 (by kernel_rfl) (zer_len 64) HX.out ?_))
  refine (spec_P6Paper.calls 300 _ _ l1 P _ (Kd.C_below HR1.out HB_4.out) HC1.out HP.out).mono ?_
  rintro e w5 ⟨v_P, rfl, ho, hb⟩
  obtain ⟨A_P, c_P, e_P⟩ := Kd.R_slice ho
  subst e_P
  have P_r := Aside0.mk (Kd.R_reads' ho).2.2
  have P_c := Aside0.mk (Kd.R_reads' ho).2.1
  clear ho
  have HB_5 := Aside0.mk (below_step HB_4.out hb)
  have N_5 := Aside0.mk (ArrAt.below N_0.out hb)
  clear hb HB_4 N_0
  go_wp2_with fail
  refine (spec_P6Steps.calls 300 _ _ l1 S _ (Kd.C_below HR1.out HB_5.out) HC1.out HSS.out).mono ?_
  rintro e w6 ⟨v_S, rfl, ho, hb⟩
  obtain ⟨A_S, c_S, e_S⟩ := Kd.R_slice ho
  subst e_S
  have S_r := Aside0.mk (Kd.R_reads' ho).2.2
  have S_c := Aside0.mk (Kd.R_reads' ho).2.1
  clear ho
  have HB_6 := Aside0.mk (below_step HB_5.out hb)
  have N_6 := Aside0.mk (ArrAt.below N_5.out hb)
  have P_6 := Aside0.mk (Kd.C_below P_r.out hb)
  clear hb HB_5 N_5 P_r
  go_wp2_with (first | (refine arr_load rfl 26 _ rfl w3.heap.size rfl 26 .i16 xs N_6.out _ Tryz.underlying26 rfl 64 (by kernel_rfl) HX.out ?_))
  refine (impl_PrintFrom.arr xs HX.out (RA_16 HXA.out) _ _ P _ _ S _ P_6.out P_c.out S_r.out S_c.out HPI.out HPL.out HS8.out HSN.out).mono ?_
  rintro e w7 ⟨rfl, hb⟩
  rw [HP1.out]
  have HB_7 := Aside0.mk (below_step HB_6.out hb)
  have N_7 := Aside0.mk (ArrAt.below N_6.out hb)
  have P_7 := Aside0.mk (Kd.C_below P_6.out hb)
  have S_7 := Aside0.mk (Kd.C_below S_r.out hb)
  clear hb HB_6 N_6 P_6 S_r
  have Q0_n := Aside0.mk (ArrAt.new w7 33 .i16 (zer 64))
  have Q0_0 := Aside0.mk (Q0_n.out.row (ys := T))
  have hba := below_row (below_alloc (Below.refl w7.heap.size w7) (.cells (nums .i16 (zer 64)).toArray 33)) (Nat.le_refl w7.heap.size) (nums .i16 T).toArray
  have HB_8 := Aside0.mk (below_step HB_7.out hba)
  have N_8 := Aside0.mk (ArrAt.below N_7.out hba)
  have P_8 := Aside0.mk (Kd.C_below P_7.out hba)
  have S_8 := Aside0.mk (Kd.C_below S_7.out hba)
  clear hba HB_7 N_7 P_7 S_7
  go_wp2_with (first | (refine arr_store rfl 33 _ _ rfl w7.heap.size .i16 T rfl rfl 33 (zer 64) Q0_n.out 64 (by kernel_rfl) (zer_len 64) HTL.out ?_) | (refine arr_load rfl 26 _ rfl w3.heap.size rfl 26 .i16 xs N_8.out _ Tryz.underlying26 rfl 64 (by kernel_rfl) HX.out ?_) | (refine arr_load rfl 33 _ rfl w7.heap.size rfl 33 .i16 T Q0_0.out _ Tryz.underlying33 rfl 64 (by kernel_rfl) HTL.out ?_))
  refine (spec_PrintFrom.arr xs HX.out (RA_16 HXA.out) _ _ P _ _ S _ P_8.out P_c.out S_8.out S_c.out HPI.out HPL.out HS8.out HSN.out).mono ?_
  rintro e w9 ⟨rfl, hb⟩
  rw [HP1.out]
  have HB_9 := Aside0.mk (below_step HB_8.out hb)
  have N_9 := Aside0.mk (ArrAt.below N_8.out hb)
  have P_9 := Aside0.mk (Kd.C_below P_8.out hb)
  have S_9 := Aside0.mk (Kd.C_below S_8.out hb)
  have Q0_9 := Aside0.mk (ArrAt.below Q0_0.out hb)
  clear hb HB_8 N_8 P_8 S_8 Q0_0
  have Q1_n := Aside0.mk (ArrAt.new w9 33 .i16 (zer 64))
  have Q1_0 := Aside0.mk (Q1_n.out.row (ys := T))
  have hba := below_row (below_alloc (Below.refl w9.heap.size w9) (.cells (nums .i16 (zer 64)).toArray 33)) (Nat.le_refl w9.heap.size) (nums .i16 T).toArray
  have HB_10 := Aside0.mk (below_step HB_9.out hba)
  have N_10 := Aside0.mk (ArrAt.below N_9.out hba)
  have P_10 := Aside0.mk (Kd.C_below P_9.out hba)
  have S_10 := Aside0.mk (Kd.C_below S_9.out hba)
  have Q0_10 := Aside0.mk (ArrAt.below Q0_9.out hba)
  clear hba HB_9 N_9 P_9 S_9 Q0_9
  go_upto_region 8 with (first | (refine arr_store rfl 33 _ _ rfl w9.heap.size .i16 T rfl rfl 33 (zer 64) Q1_n.out 64 (by kernel_rfl) (zer_len 64) HTL.out ?_) | (refine arr_load rfl 26 _ rfl w3.heap.size rfl 26 .i16 xs N_10.out _ Tryz.underlying26 rfl 64 (by kernel_rfl) HX.out ?_) | (refine arr_load rfl 33 _ rfl w7.heap.size rfl 33 .i16 T Q0_10.out _ Tryz.underlying33 rfl 64 (by kernel_rfl) HTL.out ?_) | (refine arr_load rfl 33 _ rfl w9.heap.size rfl 33 .i16 T Q1_0.out _ Tryz.underlying33 rfl 64 (by kernel_rfl) HTL.out ?_))
  go_cut [12, 13] (fun v1 v2 wc => ∃ gG : Nat, v1 = .pointer (some ⟨gG, 0, none⟩) ∧ v2 = .int .i64 0 ∧ Aside0 (ArrAt wc gG 33 .i16 T) ∧ Aside0 (ArrAt wc w3.heap.size 26 .i16 xs) ∧ Aside0 (ArrAt wc w7.heap.size 33 .i16 T) ∧ Aside0 (ArrAt wc w9.heap.size 33 .i16 T) ∧ Aside0 (Kd.C k102 wc A_P P.length P) ∧ Aside0 (Kd.C k55 wc A_S S.length S) ∧ Aside0 (Below w.heap.size w wc))
  case first =>
    as_aux_lemma =>
      refine ra_region (S := fun w' => Below ((w9.alloc (.cells (nums .i16 (zer 64)).toArray 33)).setRow w9.heap.size (nums .i16 T).toArray).heap.size ((w9.alloc (.cells (nums .i16 (zer 64)).toArray 33)).setRow w9.heap.size (nums .i16 T).toArray) w') (by kernel_rfl) (below_drew1 (Below.refl _ _)) (fun V0 hHeld => ?_)
      refine wpAnyH_take (i := 0) (v := .agg (nums .i16 xs).toArray) rfl (by kernel_rfl) (by kernel_rfl) (by kernel_rfl) (fun _ _ _ h => h) (yieldsIf_load_mid (by rfl) _ _ rfl _ _ rfl _ _ (fun w' h => ArrAt.range (N_10.out.below h)) Tryz.underlying26 rfl (by rw [nums_length, HX.out]; kernel_rfl)) (by assumption) ?_
      try simp only [List.getElem_toArray, List.getElem_cons_succ, List.getElem_cons_zero, Act.put, List.setIfInBounds_toArray, List.set_cons_zero, List.set_cons_succ]
      refine wpAnyH_take (i := 1) (v := ?_) rfl (by kernel_rfl) (by kernel_rfl) (by kernel_rfl) (fun _ _ _ h => h) (Or.inl ⟨by rfl, ?_⟩) (by assumption) ?_
      rotate_left
      · intro w hSw
        go_simp
        with_reducible rfl
      try simp only [List.getElem_toArray, List.getElem_cons_succ, List.getElem_cons_zero, Act.put, List.setIfInBounds_toArray, List.set_cons_zero, List.set_cons_succ]
      refine wpAnyH_take (i := 2) (v := ?_) rfl (by kernel_rfl) (by kernel_rfl) (by kernel_rfl) (fun _ _ _ h => h) (Or.inl ⟨by rfl, ?_⟩) (by assumption) ?_
      rotate_left
      · intro w hSw
        go_simp
        with_reducible rfl
      try simp only [List.getElem_toArray, List.getElem_cons_succ, List.getElem_cons_zero, Act.put, List.setIfInBounds_toArray, List.set_cons_zero, List.set_cons_succ]
      refine wpAnyH_ready (rs := [3, 8]) (by kernel_rfl) (by simp) ?_
      refine AllReadyH.cons rfl (fun K hK => ?_) (AllReadyH.cons rfl (fun K hK => ?_) AllReadyH.nil)
      · have q := hHeld
        clear hHeld
        go_simp
        refine (impl_LogText.calls 100 _ _ P _ _ S X _ (Kd.C_below P_10.out q) P_c.out (Kd.C_below S_10.out q) S_c.out HLT.out (HTB.out.below (below_step HB_10.out q))).mono ?_
        rintro e w11 ⟨rfl, hb⟩
        go_wp2_with fail
        refine hK.out _ _ (below_step q hb) (fun hHeld => ?_)
        clear hK K hb q
        try simp only [List.getElem_toArray, List.getElem_cons_succ, List.getElem_cons_zero, Act.put, List.setIfInBounds_toArray, List.set_cons_zero, List.set_cons_succ]
        refine wpAnyH_ready (rs := [4, 8]) (by kernel_rfl) (by simp) ?_
        refine AllReadyH.cons rfl (fun K hK => ?_) (AllReadyH.cons rfl (fun K hK => ?_) AllReadyH.nil)
        · have q := hHeld
          clear hHeld
          go_simp
          refine (impl_RedoLog.arr xs HX.out (RA_16 HXA.out) X P S 0 _ HRT.out (fun _ => HOK.out) (HTB.out.below (below_step HB_10.out q))).mono ?_
          rintro e w12 ⟨rfl, hb⟩
          rw [HRD.out]
          go_wp2_with fail
          refine hK.out _ _ (below_step q hb) (fun hHeld => ?_)
          clear hK K hb q
          try simp only [List.getElem_toArray, List.getElem_cons_succ, List.getElem_cons_zero, Act.put, List.setIfInBounds_toArray, List.set_cons_zero, List.set_cons_succ]
          refine wpAnyH_take (i := 5) (v := ?_) rfl (by kernel_rfl) (by kernel_rfl) (by kernel_rfl) (fun _ _ _ h => h) (Or.inl ⟨by rfl, ?_⟩) (by assumption) ?_
          rotate_left
          · intro w hSw
            go_simp
            with_reducible rfl
          try simp only [List.getElem_toArray, List.getElem_cons_succ, List.getElem_cons_zero, Act.put, List.setIfInBounds_toArray, List.set_cons_zero, List.set_cons_succ]
          refine wpAnyH_take (i := 6) (v := ?_) rfl (by kernel_rfl) (by kernel_rfl) (by kernel_rfl) (fun _ _ _ h => h) (Or.inl ⟨by rfl, ?_⟩) (by assumption) ?_
          rotate_left
          · intro w hSw
            go_simp
            with_reducible rfl
          try simp only [List.getElem_toArray, List.getElem_cons_succ, List.getElem_cons_zero, Act.put, List.setIfInBounds_toArray, List.set_cons_zero, List.set_cons_succ]
          refine wpAnyH_take (i := 7) (v := ?_) rfl (by kernel_rfl) (by kernel_rfl) (by kernel_rfl) (fun _ _ _ h => h) (Or.inl ⟨by rfl, ?_⟩) (by assumption) ?_
          rotate_left
          · intro w hSw
            go_simp
            with_reducible rfl
          try simp only [List.getElem_toArray, List.getElem_cons_succ, List.getElem_cons_zero, Act.put, List.setIfInBounds_toArray, List.set_cons_zero, List.set_cons_succ]
          refine wpAnyH_ready (rs := [8]) (by kernel_rfl) (by simp) ?_
          refine AllReadyH.cons rfl (fun K hK => ?_) AllReadyH.nil
          have q := hHeld
          clear hHeld
          go_simp
          have NW := Aside0.mk (ArrAt.new w12 33 .i16 (zer 64))
          have hb := (Below.refl w12.heap.size w12).alloc (Nat.le_refl _) (.cells (nums .i16 (zer 64)).toArray 33)
          have HGN := Aside0.mk (Below.size q)
          refine hK.out _ _ (below_step q hb) (fun hHeld => ?_)
          clear hK K hb q
          try simp only [List.getElem_toArray, List.getElem_cons_succ, List.getElem_cons_zero, Act.put, List.setIfInBounds_toArray, List.set_cons_zero, List.set_cons_succ]
          refine wpAnyH_ready (rs := [9]) (by kernel_rfl) (by simp) ?_
          refine AllReadyH.cons rfl (fun K hK => ?_) AllReadyH.nil
          have q := hHeld
          clear hHeld
          rw [if_pos (by rfl)]
          refine ra_store 33 _ _ rfl w12.heap.size .i16 T rfl rfl 33 (zer 64) NW.out 64 (by kernel_rfl) (zer_len 64) HTL.out ?_
          have NS := Aside0.mk (NW.out.row (ys := T))
          refine hK.out _ _ (below_row q HGN.out _) (fun hHeld => ?_)
          clear hK K q
          try simp only [List.getElem_toArray, List.getElem_cons_succ, List.getElem_cons_zero, Act.put, List.setIfInBounds_toArray, List.set_cons_zero, List.set_cons_succ]
          refine wpAnyH_take (i := 10) (v := ?_) rfl (by kernel_rfl) (by kernel_rfl) (by kernel_rfl) (fun _ _ _ h => h) (Or.inl ⟨by rfl, ?_⟩) (by assumption) ?_
          rotate_left
          · intro w hSw
            go_simp
            with_reducible rfl
          try simp only [List.getElem_toArray, List.getElem_cons_succ, List.getElem_cons_zero, Act.put, List.setIfInBounds_toArray, List.set_cons_zero, List.set_cons_succ]
          refine wpAnyH_done (by kernel_rfl) ?_ _
          go_wp2_with fail
          go_meet
          case rel => exact ⟨_, rfl, rfl, NS, ⟨ArrAt.below N_10.out hHeld⟩, ⟨ArrAt.below Q0_10.out hHeld⟩, ⟨ArrAt.below Q1_0.out hHeld⟩, ⟨Kd.C_below P_10.out hHeld⟩, ⟨Kd.C_below S_10.out hHeld⟩, ⟨below_step HB_10.out hHeld⟩⟩
        · have q := hHeld
          clear hHeld
          go_simp
          have NW := Aside0.mk (ArrAt.new w11 33 .i16 (zer 64))
          have hb := (Below.refl w11.heap.size w11).alloc (Nat.le_refl _) (.cells (nums .i16 (zer 64)).toArray 33)
          have HGN := Aside0.mk (Below.size q)
          refine hK.out _ _ (below_step q hb) (fun hHeld => ?_)
          clear hK K hb q
          try simp only [List.getElem_toArray, List.getElem_cons_succ, List.getElem_cons_zero, Act.put, List.setIfInBounds_toArray, List.set_cons_zero, List.set_cons_succ]
          refine wpAnyH_ready (rs := [4]) (by kernel_rfl) (by simp) ?_
          refine AllReadyH.cons rfl (fun K hK => ?_) AllReadyH.nil
          have q := hHeld
          clear hHeld
          go_simp
          refine (impl_RedoLog.arr xs HX.out (RA_16 HXA.out) X P S 0 _ HRT.out (fun _ => HOK.out) (HTB.out.below (below_step HB_10.out q))).mono ?_
          rintro e w12 ⟨rfl, hb⟩
          rw [HRD.out]
          go_wp2_with fail
          have NW' := Aside0.mk (NW.out.below hb)
          refine hK.out _ _ (below_step q hb) (fun hHeld => ?_)
          clear hK K hb q
          try simp only [List.getElem_toArray, List.getElem_cons_succ, List.getElem_cons_zero, Act.put, List.setIfInBounds_toArray, List.set_cons_zero, List.set_cons_succ]
          refine wpAnyH_take (i := 5) (v := ?_) rfl (by kernel_rfl) (by kernel_rfl) (by kernel_rfl) (fun _ _ _ h => h) (Or.inl ⟨by rfl, ?_⟩) (by assumption) ?_
          rotate_left
          · intro w hSw
            go_simp
            with_reducible rfl
          try simp only [List.getElem_toArray, List.getElem_cons_succ, List.getElem_cons_zero, Act.put, List.setIfInBounds_toArray, List.set_cons_zero, List.set_cons_succ]
          refine wpAnyH_take (i := 6) (v := ?_) rfl (by kernel_rfl) (by kernel_rfl) (by kernel_rfl) (fun _ _ _ h => h) (Or.inl ⟨by rfl, ?_⟩) (by assumption) ?_
          rotate_left
          · intro w hSw
            go_simp
            with_reducible rfl
          try simp only [List.getElem_toArray, List.getElem_cons_succ, List.getElem_cons_zero, Act.put, List.setIfInBounds_toArray, List.set_cons_zero, List.set_cons_succ]
          refine wpAnyH_take (i := 7) (v := ?_) rfl (by kernel_rfl) (by kernel_rfl) (by kernel_rfl) (fun _ _ _ h => h) (Or.inl ⟨by rfl, ?_⟩) (by assumption) ?_
          rotate_left
          · intro w hSw
            go_simp
            with_reducible rfl
          try simp only [List.getElem_toArray, List.getElem_cons_succ, List.getElem_cons_zero, Act.put, List.setIfInBounds_toArray, List.set_cons_zero, List.set_cons_succ]
          refine wpAnyH_ready (rs := [9]) (by kernel_rfl) (by simp) ?_
          refine AllReadyH.cons rfl (fun K hK => ?_) AllReadyH.nil
          have q := hHeld
          clear hHeld
          rw [if_pos (by rfl)]
          refine ra_store 33 _ _ rfl w11.heap.size .i16 T rfl rfl 33 (zer 64) NW'.out 64 (by kernel_rfl) (zer_len 64) HTL.out ?_
          have NS := Aside0.mk (NW'.out.row (ys := T))
          refine hK.out _ _ (below_row q HGN.out _) (fun hHeld => ?_)
          clear hK K q
          try simp only [List.getElem_toArray, List.getElem_cons_succ, List.getElem_cons_zero, Act.put, List.setIfInBounds_toArray, List.set_cons_zero, List.set_cons_succ]
          refine wpAnyH_take (i := 10) (v := ?_) rfl (by kernel_rfl) (by kernel_rfl) (by kernel_rfl) (fun _ _ _ h => h) (Or.inl ⟨by rfl, ?_⟩) (by assumption) ?_
          rotate_left
          · intro w hSw
            go_simp
            with_reducible rfl
          try simp only [List.getElem_toArray, List.getElem_cons_succ, List.getElem_cons_zero, Act.put, List.setIfInBounds_toArray, List.set_cons_zero, List.set_cons_succ]
          refine wpAnyH_done (by kernel_rfl) ?_ _
          go_wp2_with fail
          go_meet
          case rel => exact ⟨_, rfl, rfl, NS, ⟨ArrAt.below N_10.out hHeld⟩, ⟨ArrAt.below Q0_10.out hHeld⟩, ⟨ArrAt.below Q1_0.out hHeld⟩, ⟨Kd.C_below P_10.out hHeld⟩, ⟨Kd.C_below S_10.out hHeld⟩, ⟨below_step HB_10.out hHeld⟩⟩
      · have q := hHeld
        clear hHeld
        go_simp
        have NW := Aside0.mk (ArrAt.new V0 33 .i16 (zer 64))
        have hb := (Below.refl V0.heap.size V0).alloc (Nat.le_refl _) (.cells (nums .i16 (zer 64)).toArray 33)
        have HGN := Aside0.mk (Below.size q)
        refine hK.out _ _ (below_step q hb) (fun hHeld => ?_)
        clear hK K hb q
        try simp only [List.getElem_toArray, List.getElem_cons_succ, List.getElem_cons_zero, Act.put, List.setIfInBounds_toArray, List.set_cons_zero, List.set_cons_succ]
        refine wpAnyH_ready (rs := [3]) (by kernel_rfl) (by simp) ?_
        refine AllReadyH.cons rfl (fun K hK => ?_) AllReadyH.nil
        have q := hHeld
        clear hHeld
        go_simp
        refine (impl_LogText.calls 100 _ _ P _ _ S X _ (Kd.C_below P_10.out q) P_c.out (Kd.C_below S_10.out q) S_c.out HLT.out (HTB.out.below (below_step HB_10.out q))).mono ?_
        rintro e w11 ⟨rfl, hb⟩
        go_wp2_with fail
        have NW' := Aside0.mk (NW.out.below hb)
        refine hK.out _ _ (below_step q hb) (fun hHeld => ?_)
        clear hK K hb q
        try simp only [List.getElem_toArray, List.getElem_cons_succ, List.getElem_cons_zero, Act.put, List.setIfInBounds_toArray, List.set_cons_zero, List.set_cons_succ]
        refine wpAnyH_ready (rs := [4]) (by kernel_rfl) (by simp) ?_
        refine AllReadyH.cons rfl (fun K hK => ?_) AllReadyH.nil
        have q := hHeld
        clear hHeld
        go_simp
        refine (impl_RedoLog.arr xs HX.out (RA_16 HXA.out) X P S 0 _ HRT.out (fun _ => HOK.out) (HTB.out.below (below_step HB_10.out q))).mono ?_
        rintro e w12 ⟨rfl, hb⟩
        rw [HRD.out]
        go_wp2_with fail
        have NW'' := Aside0.mk (NW'.out.below hb)
        refine hK.out _ _ (below_step q hb) (fun hHeld => ?_)
        clear hK K hb q
        try simp only [List.getElem_toArray, List.getElem_cons_succ, List.getElem_cons_zero, Act.put, List.setIfInBounds_toArray, List.set_cons_zero, List.set_cons_succ]
        refine wpAnyH_take (i := 5) (v := ?_) rfl (by kernel_rfl) (by kernel_rfl) (by kernel_rfl) (fun _ _ _ h => h) (Or.inl ⟨by rfl, ?_⟩) (by assumption) ?_
        rotate_left
        · intro w hSw
          go_simp
          with_reducible rfl
        try simp only [List.getElem_toArray, List.getElem_cons_succ, List.getElem_cons_zero, Act.put, List.setIfInBounds_toArray, List.set_cons_zero, List.set_cons_succ]
        refine wpAnyH_take (i := 6) (v := ?_) rfl (by kernel_rfl) (by kernel_rfl) (by kernel_rfl) (fun _ _ _ h => h) (Or.inl ⟨by rfl, ?_⟩) (by assumption) ?_
        rotate_left
        · intro w hSw
          go_simp
          with_reducible rfl
        try simp only [List.getElem_toArray, List.getElem_cons_succ, List.getElem_cons_zero, Act.put, List.setIfInBounds_toArray, List.set_cons_zero, List.set_cons_succ]
        refine wpAnyH_take (i := 7) (v := ?_) rfl (by kernel_rfl) (by kernel_rfl) (by kernel_rfl) (fun _ _ _ h => h) (Or.inl ⟨by rfl, ?_⟩) (by assumption) ?_
        rotate_left
        · intro w hSw
          go_simp
          with_reducible rfl
        try simp only [List.getElem_toArray, List.getElem_cons_succ, List.getElem_cons_zero, Act.put, List.setIfInBounds_toArray, List.set_cons_zero, List.set_cons_succ]
        refine wpAnyH_ready (rs := [9]) (by kernel_rfl) (by simp) ?_
        refine AllReadyH.cons rfl (fun K hK => ?_) AllReadyH.nil
        have q := hHeld
        clear hHeld
        rw [if_pos (by rfl)]
        refine ra_store 33 _ _ rfl V0.heap.size .i16 T rfl rfl 33 (zer 64) NW''.out 64 (by kernel_rfl) (zer_len 64) HTL.out ?_
        have NS := Aside0.mk (NW''.out.row (ys := T))
        refine hK.out _ _ (below_row q HGN.out _) (fun hHeld => ?_)
        clear hK K q
        try simp only [List.getElem_toArray, List.getElem_cons_succ, List.getElem_cons_zero, Act.put, List.setIfInBounds_toArray, List.set_cons_zero, List.set_cons_succ]
        refine wpAnyH_take (i := 10) (v := ?_) rfl (by kernel_rfl) (by kernel_rfl) (by kernel_rfl) (fun _ _ _ h => h) (Or.inl ⟨by rfl, ?_⟩) (by assumption) ?_
        rotate_left
        · intro w hSw
          go_simp
          with_reducible rfl
        try simp only [List.getElem_toArray, List.getElem_cons_succ, List.getElem_cons_zero, Act.put, List.setIfInBounds_toArray, List.set_cons_zero, List.set_cons_succ]
        refine wpAnyH_done (by kernel_rfl) ?_ _
        go_wp2_with fail
        go_meet
        case rel => exact ⟨_, rfl, rfl, NS, ⟨ArrAt.below N_10.out hHeld⟩, ⟨ArrAt.below Q0_10.out hHeld⟩, ⟨ArrAt.below Q1_0.out hHeld⟩, ⟨Kd.C_below P_10.out hHeld⟩, ⟨Kd.C_below S_10.out hHeld⟩, ⟨below_step HB_10.out hHeld⟩⟩
  case rest =>
    clear HB_10 N_10 P_10 S_10 Q0_10 Q1_0
    obtain ⟨gG, rfl, rfl, HG, F_N, F_Q0, F_Q1, F_P, F_S, HB⟩ := hcut
    go_wp2_with fail
    refine (impl_LogText.calls 100 _ _ P _ _ S X _ F_P.out P_c.out F_S.out S_c.out HLT.out (HTB.out.below HB.out)).mono ?_
    rintro e w31 ⟨rfl, hb⟩
    have N_31 := Aside0.mk (ArrAt.below F_N.out hb)
    have Q0_31 := Aside0.mk (ArrAt.below F_Q0.out hb)
    have Q1_31 := Aside0.mk (ArrAt.below F_Q1.out hb)
    have P_31 := Aside0.mk (Kd.C_below F_P.out hb)
    have S_31 := Aside0.mk (Kd.C_below F_S.out hb)
    have HB_31 := Aside0.mk (below_step HB.out hb)
    have G_31 := Aside0.mk (ArrAt.below HG.out hb)
    clear hb F_N F_Q0 F_Q1 F_P F_S HB HG
    go_wp2_with fail
    refine (impl_ReadLog.calls X P S 0 _ HRT.out (HTB.out.below HB_31.out)).mono ?_
    rintro e w32 ⟨v_C, v_L, rfl, ho, ho2, hb⟩
    obtain ⟨A_C, c_C, e_C⟩ := Kd.R_slice ho
    subst e_C
    have C_r := Aside0.mk (Kd.R_reads' ho).2.2
    have C_c := Aside0.mk (Kd.R_reads' ho).2.1
    clear ho
    obtain ⟨A_L, c_L, e_L⟩ := Kd.R_slice ho2
    subst e_L
    have L_r := Aside0.mk (Kd.R_reads' ho2).2.2
    have L_c := Aside0.mk (Kd.R_reads' ho2).2.1
    clear ho2
    have N_32 := Aside0.mk (ArrAt.below N_31.out hb)
    have Q0_32 := Aside0.mk (ArrAt.below Q0_31.out hb)
    have Q1_32 := Aside0.mk (ArrAt.below Q1_31.out hb)
    have P_32 := Aside0.mk (Kd.C_below P_31.out hb)
    have S_32 := Aside0.mk (Kd.C_below S_31.out hb)
    have HB_32 := Aside0.mk (below_step HB_31.out hb)
    have G_32 := Aside0.mk (ArrAt.below G_31.out hb)
    clear hb N_31 Q0_31 Q1_31 P_31 S_31 HB_31 G_31
    go_wp2_with fail
    refine (impl_TimesOn.arr _ _ S _ S_32.out S_c.out HS8.out HSN.out).mono ?_
    rintro e w33 ⟨rfl, hb⟩
    rw [HTO.out]
    have N_33 := Aside0.mk (ArrAt.below N_32.out hb)
    have Q0_33 := Aside0.mk (ArrAt.below Q0_32.out hb)
    have Q1_33 := Aside0.mk (ArrAt.below Q1_32.out hb)
    have P_33 := Aside0.mk (Kd.C_below P_32.out hb)
    have S_33 := Aside0.mk (Kd.C_below S_32.out hb)
    have HB_33 := Aside0.mk (below_step HB_32.out hb)
    have G_33 := Aside0.mk (ArrAt.below G_32.out hb)
    have C_33 := Aside0.mk (Kd.C_below C_r.out hb)
    have L_33 := Aside0.mk (Kd.C_below L_r.out hb)
    clear hb N_32 Q0_32 Q1_32 P_32 S_32 HB_32 G_32 C_r L_r
    have V0_n := Aside0.mk (ArrAt.new w33 40 .i64 (zer 64))
    have V0_0 := Aside0.mk (V0_n.out.row (ys := TT))
    have hba := below_row (below_alloc (Below.refl w33.heap.size w33) (.cells (nums .i64 (zer 64)).toArray 40)) (Nat.le_refl w33.heap.size) (nums .i64 TT).toArray
    have N_34 := Aside0.mk (ArrAt.below N_33.out hba)
    have Q0_34 := Aside0.mk (ArrAt.below Q0_33.out hba)
    have Q1_34 := Aside0.mk (ArrAt.below Q1_33.out hba)
    have P_34 := Aside0.mk (Kd.C_below P_33.out hba)
    have S_34 := Aside0.mk (Kd.C_below S_33.out hba)
    have HB_34 := Aside0.mk (below_step HB_33.out hba)
    have G_34 := Aside0.mk (ArrAt.below G_33.out hba)
    have C_34 := Aside0.mk (Kd.C_below C_33.out hba)
    have L_34 := Aside0.mk (Kd.C_below L_33.out hba)
    clear hba N_33 Q0_33 Q1_33 P_33 S_33 HB_33 G_33 C_33 L_33
    go_wp2_with (first | (refine arr_store rfl 40 _ _ rfl w33.heap.size .i64 TT rfl rfl 40 (zer 64) V0_n.out 64 (by kernel_rfl) (zer_len 64) HTTL.out ?_) | (refine arr_load rfl 26 _ rfl w3.heap.size rfl 26 .i16 xs N_34.out _ Tryz.underlying26 rfl 64 (by kernel_rfl) HX.out ?_) | (refine arr_load rfl 33 _ rfl w7.heap.size rfl 33 .i16 T Q0_34.out _ Tryz.underlying33 rfl 64 (by kernel_rfl) HTL.out ?_) | (refine arr_load rfl 33 _ rfl w9.heap.size rfl 33 .i16 T Q1_34.out _ Tryz.underlying33 rfl 64 (by kernel_rfl) HTL.out ?_) | (refine arr_load rfl 33 _ rfl gG rfl 33 .i16 T G_34.out _ Tryz.underlying33 rfl 64 (by kernel_rfl) HTL.out ?_) | (refine arr_load rfl 40 _ rfl w33.heap.size rfl 40 .i64 TT V0_0.out _ Tryz.underlying40 rfl 64 (by kernel_rfl) HTTL.out ?_))
    refine (spec_TimesOn.arr _ _ S _ S_34.out S_c.out HS8.out HSN.out).mono ?_
    rintro e w35 ⟨rfl, hb⟩
    rw [HTO.out]
    have N_35 := Aside0.mk (ArrAt.below N_34.out hb)
    have Q0_35 := Aside0.mk (ArrAt.below Q0_34.out hb)
    have Q1_35 := Aside0.mk (ArrAt.below Q1_34.out hb)
    have P_35 := Aside0.mk (Kd.C_below P_34.out hb)
    have S_35 := Aside0.mk (Kd.C_below S_34.out hb)
    have HB_35 := Aside0.mk (below_step HB_34.out hb)
    have G_35 := Aside0.mk (ArrAt.below G_34.out hb)
    have C_35 := Aside0.mk (Kd.C_below C_34.out hb)
    have L_35 := Aside0.mk (Kd.C_below L_34.out hb)
    have V0_35 := Aside0.mk (ArrAt.below V0_0.out hb)
    clear hb N_34 Q0_34 Q1_34 P_34 S_34 HB_34 G_34 C_34 L_34 V0_0
    have V1_n := Aside0.mk (ArrAt.new w35 40 .i64 (zer 64))
    have V1_0 := Aside0.mk (V1_n.out.row (ys := TT))
    have hba := below_row (below_alloc (Below.refl w35.heap.size w35) (.cells (nums .i64 (zer 64)).toArray 40)) (Nat.le_refl w35.heap.size) (nums .i64 TT).toArray
    have N_36 := Aside0.mk (ArrAt.below N_35.out hba)
    have Q0_36 := Aside0.mk (ArrAt.below Q0_35.out hba)
    have Q1_36 := Aside0.mk (ArrAt.below Q1_35.out hba)
    have P_36 := Aside0.mk (Kd.C_below P_35.out hba)
    have S_36 := Aside0.mk (Kd.C_below S_35.out hba)
    have HB_36 := Aside0.mk (below_step HB_35.out hba)
    have G_36 := Aside0.mk (ArrAt.below G_35.out hba)
    have C_36 := Aside0.mk (Kd.C_below C_35.out hba)
    have L_36 := Aside0.mk (Kd.C_below L_35.out hba)
    have V0_36 := Aside0.mk (ArrAt.below V0_35.out hba)
    clear hba N_35 Q0_35 Q1_35 P_35 S_35 HB_35 G_35 C_35 L_35 V0_35
    go_wp2_with (first | (refine arr_store rfl 40 _ _ rfl w35.heap.size .i64 TT rfl rfl 40 (zer 64) V1_n.out 64 (by kernel_rfl) (zer_len 64) HTTL.out ?_) | (refine arr_load rfl 26 _ rfl w3.heap.size rfl 26 .i16 xs N_36.out _ Tryz.underlying26 rfl 64 (by kernel_rfl) HX.out ?_) | (refine arr_load rfl 33 _ rfl w7.heap.size rfl 33 .i16 T Q0_36.out _ Tryz.underlying33 rfl 64 (by kernel_rfl) HTL.out ?_) | (refine arr_load rfl 33 _ rfl w9.heap.size rfl 33 .i16 T Q1_36.out _ Tryz.underlying33 rfl 64 (by kernel_rfl) HTL.out ?_) | (refine arr_load rfl 33 _ rfl gG rfl 33 .i16 T G_36.out _ Tryz.underlying33 rfl 64 (by kernel_rfl) HTL.out ?_) | (refine arr_load rfl 40 _ rfl w33.heap.size rfl 40 .i64 TT V0_36.out _ Tryz.underlying40 rfl 64 (by kernel_rfl) HTTL.out ?_) | (refine arr_load rfl 40 _ rfl w35.heap.size rfl 40 .i64 TT V1_0.out _ Tryz.underlying40 rfl 64 (by kernel_rfl) HTTL.out ?_))
    refine (impl_LightOn.arr _ _ S _ S_36.out S_c.out HS8.out HSN.out).mono ?_
    rintro e w37 ⟨rfl, hb⟩
    rw [HLO.out]
    have N_37 := Aside0.mk (ArrAt.below N_36.out hb)
    have Q0_37 := Aside0.mk (ArrAt.below Q0_36.out hb)
    have Q1_37 := Aside0.mk (ArrAt.below Q1_36.out hb)
    have P_37 := Aside0.mk (Kd.C_below P_36.out hb)
    have S_37 := Aside0.mk (Kd.C_below S_36.out hb)
    have HB_37 := Aside0.mk (below_step HB_36.out hb)
    have G_37 := Aside0.mk (ArrAt.below G_36.out hb)
    have C_37 := Aside0.mk (Kd.C_below C_36.out hb)
    have L_37 := Aside0.mk (Kd.C_below L_36.out hb)
    have V0_37 := Aside0.mk (ArrAt.below V0_36.out hb)
    have V1_37 := Aside0.mk (ArrAt.below V1_0.out hb)
    clear hb N_36 Q0_36 Q1_36 P_36 S_36 HB_36 G_36 C_36 L_36 V0_36 V1_0
    have V2_n := Aside0.mk (ArrAt.new w37 40 .i64 (zer 64))
    have V2_0 := Aside0.mk (V2_n.out.row (ys := LT))
    have hba := below_row (below_alloc (Below.refl w37.heap.size w37) (.cells (nums .i64 (zer 64)).toArray 40)) (Nat.le_refl w37.heap.size) (nums .i64 LT).toArray
    have N_38 := Aside0.mk (ArrAt.below N_37.out hba)
    have Q0_38 := Aside0.mk (ArrAt.below Q0_37.out hba)
    have Q1_38 := Aside0.mk (ArrAt.below Q1_37.out hba)
    have P_38 := Aside0.mk (Kd.C_below P_37.out hba)
    have S_38 := Aside0.mk (Kd.C_below S_37.out hba)
    have HB_38 := Aside0.mk (below_step HB_37.out hba)
    have G_38 := Aside0.mk (ArrAt.below G_37.out hba)
    have C_38 := Aside0.mk (Kd.C_below C_37.out hba)
    have L_38 := Aside0.mk (Kd.C_below L_37.out hba)
    have V0_38 := Aside0.mk (ArrAt.below V0_37.out hba)
    have V1_38 := Aside0.mk (ArrAt.below V1_37.out hba)
    clear hba N_37 Q0_37 Q1_37 P_37 S_37 HB_37 G_37 C_37 L_37 V0_37 V1_37
    go_wp2_with (first | (refine arr_store rfl 40 _ _ rfl w37.heap.size .i64 LT rfl rfl 40 (zer 64) V2_n.out 64 (by kernel_rfl) (zer_len 64) HLTL.out ?_) | (refine arr_load rfl 26 _ rfl w3.heap.size rfl 26 .i16 xs N_38.out _ Tryz.underlying26 rfl 64 (by kernel_rfl) HX.out ?_) | (refine arr_load rfl 33 _ rfl w7.heap.size rfl 33 .i16 T Q0_38.out _ Tryz.underlying33 rfl 64 (by kernel_rfl) HTL.out ?_) | (refine arr_load rfl 33 _ rfl w9.heap.size rfl 33 .i16 T Q1_38.out _ Tryz.underlying33 rfl 64 (by kernel_rfl) HTL.out ?_) | (refine arr_load rfl 33 _ rfl gG rfl 33 .i16 T G_38.out _ Tryz.underlying33 rfl 64 (by kernel_rfl) HTL.out ?_) | (refine arr_load rfl 40 _ rfl w33.heap.size rfl 40 .i64 TT V0_38.out _ Tryz.underlying40 rfl 64 (by kernel_rfl) HTTL.out ?_) | (refine arr_load rfl 40 _ rfl w35.heap.size rfl 40 .i64 TT V1_38.out _ Tryz.underlying40 rfl 64 (by kernel_rfl) HTTL.out ?_) | (refine arr_load rfl 40 _ rfl w37.heap.size rfl 40 .i64 LT V2_0.out _ Tryz.underlying40 rfl 64 (by kernel_rfl) HLTL.out ?_))
    refine (spec_LightOn.arr _ _ S _ S_38.out S_c.out HS8.out HSN.out).mono ?_
    rintro e w39 ⟨rfl, hb⟩
    rw [HLO.out]
    have N_39 := Aside0.mk (ArrAt.below N_38.out hb)
    have Q0_39 := Aside0.mk (ArrAt.below Q0_38.out hb)
    have Q1_39 := Aside0.mk (ArrAt.below Q1_38.out hb)
    have P_39 := Aside0.mk (Kd.C_below P_38.out hb)
    have S_39 := Aside0.mk (Kd.C_below S_38.out hb)
    have HB_39 := Aside0.mk (below_step HB_38.out hb)
    have G_39 := Aside0.mk (ArrAt.below G_38.out hb)
    have C_39 := Aside0.mk (Kd.C_below C_38.out hb)
    have L_39 := Aside0.mk (Kd.C_below L_38.out hb)
    have V0_39 := Aside0.mk (ArrAt.below V0_38.out hb)
    have V1_39 := Aside0.mk (ArrAt.below V1_38.out hb)
    have V2_39 := Aside0.mk (ArrAt.below V2_0.out hb)
    clear hb N_38 Q0_38 Q1_38 P_38 S_38 HB_38 G_38 C_38 L_38 V0_38 V1_38 V2_0
    have V3_n := Aside0.mk (ArrAt.new w39 40 .i64 (zer 64))
    have V3_0 := Aside0.mk (V3_n.out.row (ys := LT))
    have hba := below_row (below_alloc (Below.refl w39.heap.size w39) (.cells (nums .i64 (zer 64)).toArray 40)) (Nat.le_refl w39.heap.size) (nums .i64 LT).toArray
    have N_40 := Aside0.mk (ArrAt.below N_39.out hba)
    have Q0_40 := Aside0.mk (ArrAt.below Q0_39.out hba)
    have Q1_40 := Aside0.mk (ArrAt.below Q1_39.out hba)
    have P_40 := Aside0.mk (Kd.C_below P_39.out hba)
    have S_40 := Aside0.mk (Kd.C_below S_39.out hba)
    have HB_40 := Aside0.mk (below_step HB_39.out hba)
    have G_40 := Aside0.mk (ArrAt.below G_39.out hba)
    have C_40 := Aside0.mk (Kd.C_below C_39.out hba)
    have L_40 := Aside0.mk (Kd.C_below L_39.out hba)
    have V0_40 := Aside0.mk (ArrAt.below V0_39.out hba)
    have V1_40 := Aside0.mk (ArrAt.below V1_39.out hba)
    have V2_40 := Aside0.mk (ArrAt.below V2_39.out hba)
    clear hba N_39 Q0_39 Q1_39 P_39 S_39 HB_39 G_39 C_39 L_39 V0_39 V1_39 V2_39
    go_wp2_with (first | (refine arr_store rfl 40 _ _ rfl w39.heap.size .i64 LT rfl rfl 40 (zer 64) V3_n.out 64 (by kernel_rfl) (zer_len 64) HLTL.out ?_) | (refine arr_load rfl 26 _ rfl w3.heap.size rfl 26 .i16 xs N_40.out _ Tryz.underlying26 rfl 64 (by kernel_rfl) HX.out ?_) | (refine arr_load rfl 33 _ rfl w7.heap.size rfl 33 .i16 T Q0_40.out _ Tryz.underlying33 rfl 64 (by kernel_rfl) HTL.out ?_) | (refine arr_load rfl 33 _ rfl w9.heap.size rfl 33 .i16 T Q1_40.out _ Tryz.underlying33 rfl 64 (by kernel_rfl) HTL.out ?_) | (refine arr_load rfl 33 _ rfl gG rfl 33 .i16 T G_40.out _ Tryz.underlying33 rfl 64 (by kernel_rfl) HTL.out ?_) | (refine arr_load rfl 40 _ rfl w33.heap.size rfl 40 .i64 TT V0_40.out _ Tryz.underlying40 rfl 64 (by kernel_rfl) HTTL.out ?_) | (refine arr_load rfl 40 _ rfl w35.heap.size rfl 40 .i64 TT V1_40.out _ Tryz.underlying40 rfl 64 (by kernel_rfl) HTTL.out ?_) | (refine arr_load rfl 40 _ rfl w37.heap.size rfl 40 .i64 LT V2_40.out _ Tryz.underlying40 rfl 64 (by kernel_rfl) HLTL.out ?_) | (refine arr_load rfl 40 _ rfl w39.heap.size rfl 40 .i64 LT V3_0.out _ Tryz.underlying40 rfl 64 (by kernel_rfl) HLTL.out ?_))
    refine (impl_RangeOf.arr T HTL.out HT16.out _).mono ?_
    rintro e w41 ⟨rfl, hb⟩
    rw [HRG.out]
    have N_41 := Aside0.mk (ArrAt.below N_40.out hb)
    have Q0_41 := Aside0.mk (ArrAt.below Q0_40.out hb)
    have Q1_41 := Aside0.mk (ArrAt.below Q1_40.out hb)
    have P_41 := Aside0.mk (Kd.C_below P_40.out hb)
    have S_41 := Aside0.mk (Kd.C_below S_40.out hb)
    have HB_41 := Aside0.mk (below_step HB_40.out hb)
    have G_41 := Aside0.mk (ArrAt.below G_40.out hb)
    have C_41 := Aside0.mk (Kd.C_below C_40.out hb)
    have L_41 := Aside0.mk (Kd.C_below L_40.out hb)
    have V0_41 := Aside0.mk (ArrAt.below V0_40.out hb)
    have V1_41 := Aside0.mk (ArrAt.below V1_40.out hb)
    have V2_41 := Aside0.mk (ArrAt.below V2_40.out hb)
    have V3_41 := Aside0.mk (ArrAt.below V3_0.out hb)
    clear hb N_40 Q0_40 Q1_40 P_40 S_40 HB_40 G_40 C_40 L_40 V0_40 V1_40 V2_40 V3_0
    go_upto_region 15 with fail
    go_cut [200] (fun v1 wc => v1 = .bool false ∧ Aside0 (ArrAt wc w3.heap.size 26 .i16 xs) ∧ Aside0 (ArrAt wc w9.heap.size 33 .i16 T) ∧ Aside0 (ArrAt wc w35.heap.size 40 .i64 TT) ∧ Aside0 (ArrAt wc w39.heap.size 40 .i64 LT) ∧ Aside0 (Kd.C k102 wc A_P P.length P) ∧ Aside0 (Kd.C k55 wc A_S S.length S) ∧ Aside0 (Below w.heap.size w wc))
    case first =>
      as_aux_lemma =>
        go_step
        simp only [List.append_eq, List.cons_append, List.nil_append]
        have qT := eq_prt T HTL.out
        go_wp2_with (first | (refine arr_loadG (by first | rfl | kernel_rfl) 26 _ rfl w3.heap.size rfl 26 .i16 xs N_41.out _ Tryz.underlying26 rfl 64 (by kernel_rfl) HX.out ?_) | (refine arr_loadG (by first | rfl | kernel_rfl) 33 _ rfl w7.heap.size rfl 33 .i16 T Q0_41.out _ Tryz.underlying33 rfl 64 (by kernel_rfl) HTL.out ?_) | (refine arr_loadG (by first | rfl | kernel_rfl) 33 _ rfl w9.heap.size rfl 33 .i16 T Q1_41.out _ Tryz.underlying33 rfl 64 (by kernel_rfl) HTL.out ?_) | (refine arr_loadG (by first | rfl | kernel_rfl) 33 _ rfl gG rfl 33 .i16 T G_41.out _ Tryz.underlying33 rfl 64 (by kernel_rfl) HTL.out ?_) | (refine arr_loadG (by first | rfl | kernel_rfl) 40 _ rfl w33.heap.size rfl 40 .i64 TT V0_41.out _ Tryz.underlying40 rfl 64 (by kernel_rfl) HTTL.out ?_) | (refine arr_loadG (by first | rfl | kernel_rfl) 40 _ rfl w35.heap.size rfl 40 .i64 TT V1_41.out _ Tryz.underlying40 rfl 64 (by kernel_rfl) HTTL.out ?_) | (refine arr_loadG (by first | rfl | kernel_rfl) 40 _ rfl w37.heap.size rfl 40 .i64 LT V2_41.out _ Tryz.underlying40 rfl 64 (by kernel_rfl) HLTL.out ?_) | (refine arr_loadG (by first | rfl | kernel_rfl) 40 _ rfl w39.heap.size rfl 40 .i64 LT V3_41.out _ Tryz.underlying40 rfl 64 (by kernel_rfl) HLTL.out ?_))
        clear qT
        refine (spec_SameCurve.calls _ _ _ P _ _ P true _ C_41.out C_c.out P_41.out P_c.out HSC.out).mono ?_
        rintro e w42 ⟨rfl, hb⟩
        have N_42 := Aside0.mk (ArrAt.below N_41.out hb.below)
        have Q0_42 := Aside0.mk (ArrAt.below Q0_41.out hb.below)
        have Q1_42 := Aside0.mk (ArrAt.below Q1_41.out hb.below)
        have P_42 := Aside0.mk (Kd.C_below P_41.out hb.below)
        have S_42 := Aside0.mk (Kd.C_below S_41.out hb.below)
        have HB_42 := Aside0.mk (below_step HB_41.out hb.below)
        have G_42 := Aside0.mk (ArrAt.below G_41.out hb.below)
        have C_42 := Aside0.mk (Kd.C_below C_41.out hb.below)
        have L_42 := Aside0.mk (Kd.C_below L_41.out hb.below)
        have V0_42 := Aside0.mk (ArrAt.below V0_41.out hb.below)
        have V1_42 := Aside0.mk (ArrAt.below V1_41.out hb.below)
        have V2_42 := Aside0.mk (ArrAt.below V2_41.out hb.below)
        have V3_42 := Aside0.mk (ArrAt.below V3_41.out hb.below)
        clear hb N_41 Q0_41 Q1_41 P_41 S_41 HB_41 G_41 C_41 L_41 V0_41 V1_41 V2_41 V3_41
        as_aux_lemma =>
          go_wp2_with (first | (refine arr_loadG (by first | rfl | kernel_rfl) 26 _ rfl w3.heap.size rfl 26 .i16 xs N_42.out _ Tryz.underlying26 rfl 64 (by kernel_rfl) HX.out ?_) | (refine arr_loadG (by first | rfl | kernel_rfl) 33 _ rfl w7.heap.size rfl 33 .i16 T Q0_42.out _ Tryz.underlying33 rfl 64 (by kernel_rfl) HTL.out ?_) | (refine arr_loadG (by first | rfl | kernel_rfl) 33 _ rfl w9.heap.size rfl 33 .i16 T Q1_42.out _ Tryz.underlying33 rfl 64 (by kernel_rfl) HTL.out ?_) | (refine arr_loadG (by first | rfl | kernel_rfl) 33 _ rfl gG rfl 33 .i16 T G_42.out _ Tryz.underlying33 rfl 64 (by kernel_rfl) HTL.out ?_) | (refine arr_loadG (by first | rfl | kernel_rfl) 40 _ rfl w33.heap.size rfl 40 .i64 TT V0_42.out _ Tryz.underlying40 rfl 64 (by kernel_rfl) HTTL.out ?_) | (refine arr_loadG (by first | rfl | kernel_rfl) 40 _ rfl w35.heap.size rfl 40 .i64 TT V1_42.out _ Tryz.underlying40 rfl 64 (by kernel_rfl) HTTL.out ?_) | (refine arr_loadG (by first | rfl | kernel_rfl) 40 _ rfl w37.heap.size rfl 40 .i64 LT V2_42.out _ Tryz.underlying40 rfl 64 (by kernel_rfl) HLTL.out ?_) | (refine arr_loadG (by first | rfl | kernel_rfl) 40 _ rfl w39.heap.size rfl 40 .i64 LT V3_42.out _ Tryz.underlying40 rfl 64 (by kernel_rfl) HLTL.out ?_))
          refine (spec_SameSteps.calls _ _ _ S _ _ S true _ L_42.out L_c.out S_42.out S_c.out HSG.out).mono ?_
          rintro e w43 ⟨rfl, hb⟩
          have N_43 := Aside0.mk (ArrAt.below N_42.out hb.below)
          have Q0_43 := Aside0.mk (ArrAt.below Q0_42.out hb.below)
          have Q1_43 := Aside0.mk (ArrAt.below Q1_42.out hb.below)
          have P_43 := Aside0.mk (Kd.C_below P_42.out hb.below)
          have S_43 := Aside0.mk (Kd.C_below S_42.out hb.below)
          have HB_43 := Aside0.mk (below_step HB_42.out hb.below)
          have G_43 := Aside0.mk (ArrAt.below G_42.out hb.below)
          have C_43 := Aside0.mk (Kd.C_below C_42.out hb.below)
          have L_43 := Aside0.mk (Kd.C_below L_42.out hb.below)
          have V0_43 := Aside0.mk (ArrAt.below V0_42.out hb.below)
          have V1_43 := Aside0.mk (ArrAt.below V1_42.out hb.below)
          have V2_43 := Aside0.mk (ArrAt.below V2_42.out hb.below)
          have V3_43 := Aside0.mk (ArrAt.below V3_42.out hb.below)
          clear hb N_42 Q0_42 Q1_42 P_42 S_42 HB_42 G_42 C_42 L_42 V0_42 V1_42 V2_42 V3_42
          as_aux_lemma =>
            go_wp2_with (first | (refine arr_loadG (by first | rfl | kernel_rfl) 26 _ rfl w3.heap.size rfl 26 .i16 xs N_43.out _ Tryz.underlying26 rfl 64 (by kernel_rfl) HX.out ?_) | (refine arr_loadG (by first | rfl | kernel_rfl) 33 _ rfl w7.heap.size rfl 33 .i16 T Q0_43.out _ Tryz.underlying33 rfl 64 (by kernel_rfl) HTL.out ?_) | (refine arr_loadG (by first | rfl | kernel_rfl) 33 _ rfl w9.heap.size rfl 33 .i16 T Q1_43.out _ Tryz.underlying33 rfl 64 (by kernel_rfl) HTL.out ?_) | (refine arr_loadG (by first | rfl | kernel_rfl) 33 _ rfl gG rfl 33 .i16 T G_43.out _ Tryz.underlying33 rfl 64 (by kernel_rfl) HTL.out ?_) | (refine arr_loadG (by first | rfl | kernel_rfl) 40 _ rfl w33.heap.size rfl 40 .i64 TT V0_43.out _ Tryz.underlying40 rfl 64 (by kernel_rfl) HTTL.out ?_) | (refine arr_loadG (by first | rfl | kernel_rfl) 40 _ rfl w35.heap.size rfl 40 .i64 TT V1_43.out _ Tryz.underlying40 rfl 64 (by kernel_rfl) HTTL.out ?_) | (refine arr_loadG (by first | rfl | kernel_rfl) 40 _ rfl w37.heap.size rfl 40 .i64 LT V2_43.out _ Tryz.underlying40 rfl 64 (by kernel_rfl) HLTL.out ?_) | (refine arr_loadG (by first | rfl | kernel_rfl) 40 _ rfl w39.heap.size rfl 40 .i64 LT V3_43.out _ Tryz.underlying40 rfl 64 (by kernel_rfl) HLTL.out ?_))
            refine (impl_SameSteps.calls _ _ _ S _ _ S true _ L_43.out L_c.out S_43.out S_c.out HIG.out).mono ?_
            rintro e w44 ⟨rfl, hb⟩
            have N_44 := Aside0.mk (ArrAt.below N_43.out hb.below)
            have Q0_44 := Aside0.mk (ArrAt.below Q0_43.out hb.below)
            have Q1_44 := Aside0.mk (ArrAt.below Q1_43.out hb.below)
            have P_44 := Aside0.mk (Kd.C_below P_43.out hb.below)
            have S_44 := Aside0.mk (Kd.C_below S_43.out hb.below)
            have HB_44 := Aside0.mk (below_step HB_43.out hb.below)
            have G_44 := Aside0.mk (ArrAt.below G_43.out hb.below)
            have C_44 := Aside0.mk (Kd.C_below C_43.out hb.below)
            have L_44 := Aside0.mk (Kd.C_below L_43.out hb.below)
            have V0_44 := Aside0.mk (ArrAt.below V0_43.out hb.below)
            have V1_44 := Aside0.mk (ArrAt.below V1_43.out hb.below)
            have V2_44 := Aside0.mk (ArrAt.below V2_43.out hb.below)
            have V3_44 := Aside0.mk (ArrAt.below V3_43.out hb.below)
            clear hb N_43 Q0_43 Q1_43 P_43 S_43 HB_43 G_43 C_43 L_43 V0_43 V1_43 V2_43 V3_43
            as_aux_lemma =>
              have qTT := eq_t64 TT HTTL.out
              have qLT := eq_t64 LT HLTL.out
              go_wp2_with (first | (refine arr_loadG (by first | rfl | kernel_rfl) 26 _ rfl w3.heap.size rfl 26 .i16 xs N_44.out _ Tryz.underlying26 rfl 64 (by kernel_rfl) HX.out ?_) | (refine arr_loadG (by first | rfl | kernel_rfl) 33 _ rfl w7.heap.size rfl 33 .i16 T Q0_44.out _ Tryz.underlying33 rfl 64 (by kernel_rfl) HTL.out ?_) | (refine arr_loadG (by first | rfl | kernel_rfl) 33 _ rfl w9.heap.size rfl 33 .i16 T Q1_44.out _ Tryz.underlying33 rfl 64 (by kernel_rfl) HTL.out ?_) | (refine arr_loadG (by first | rfl | kernel_rfl) 33 _ rfl gG rfl 33 .i16 T G_44.out _ Tryz.underlying33 rfl 64 (by kernel_rfl) HTL.out ?_) | (refine arr_loadG (by first | rfl | kernel_rfl) 40 _ rfl w33.heap.size rfl 40 .i64 TT V0_44.out _ Tryz.underlying40 rfl 64 (by kernel_rfl) HTTL.out ?_) | (refine arr_loadG (by first | rfl | kernel_rfl) 40 _ rfl w35.heap.size rfl 40 .i64 TT V1_44.out _ Tryz.underlying40 rfl 64 (by kernel_rfl) HTTL.out ?_) | (refine arr_loadG (by first | rfl | kernel_rfl) 40 _ rfl w37.heap.size rfl 40 .i64 LT V2_44.out _ Tryz.underlying40 rfl 64 (by kernel_rfl) HLTL.out ?_) | (refine arr_loadG (by first | rfl | kernel_rfl) 40 _ rfl w39.heap.size rfl 40 .i64 LT V3_44.out _ Tryz.underlying40 rfl 64 (by kernel_rfl) HLTL.out ?_))
              clear qTT qLT
              refine (impl_ValidNegative.arr xs HX.out (RA_16 HXA.out) _).mono ?_
              rintro e w45 ⟨rfl, hb⟩
              rw [HDX.out]
              have N_45 := Aside0.mk (ArrAt.below N_44.out hb)
              have Q0_45 := Aside0.mk (ArrAt.below Q0_44.out hb)
              have Q1_45 := Aside0.mk (ArrAt.below Q1_44.out hb)
              have P_45 := Aside0.mk (Kd.C_below P_44.out hb)
              have S_45 := Aside0.mk (Kd.C_below S_44.out hb)
              have HB_45 := Aside0.mk (below_step HB_44.out hb)
              have G_45 := Aside0.mk (ArrAt.below G_44.out hb)
              have C_45 := Aside0.mk (Kd.C_below C_44.out hb)
              have L_45 := Aside0.mk (Kd.C_below L_44.out hb)
              have V0_45 := Aside0.mk (ArrAt.below V0_44.out hb)
              have V1_45 := Aside0.mk (ArrAt.below V1_44.out hb)
              have V2_45 := Aside0.mk (ArrAt.below V2_44.out hb)
              have V3_45 := Aside0.mk (ArrAt.below V3_44.out hb)
              clear hb N_44 Q0_44 Q1_44 P_44 S_44 HB_44 G_44 C_44 L_44 V0_44 V1_44 V2_44 V3_44
              as_aux_lemma =>
                go_wp2_with (first | (refine arr_loadG (by first | rfl | kernel_rfl) 26 _ rfl w3.heap.size rfl 26 .i16 xs N_45.out _ Tryz.underlying26 rfl 64 (by kernel_rfl) HX.out ?_) | (refine arr_loadG (by first | rfl | kernel_rfl) 33 _ rfl w7.heap.size rfl 33 .i16 T Q0_45.out _ Tryz.underlying33 rfl 64 (by kernel_rfl) HTL.out ?_) | (refine arr_loadG (by first | rfl | kernel_rfl) 33 _ rfl w9.heap.size rfl 33 .i16 T Q1_45.out _ Tryz.underlying33 rfl 64 (by kernel_rfl) HTL.out ?_) | (refine arr_loadG (by first | rfl | kernel_rfl) 33 _ rfl gG rfl 33 .i16 T G_45.out _ Tryz.underlying33 rfl 64 (by kernel_rfl) HTL.out ?_) | (refine arr_loadG (by first | rfl | kernel_rfl) 40 _ rfl w33.heap.size rfl 40 .i64 TT V0_45.out _ Tryz.underlying40 rfl 64 (by kernel_rfl) HTTL.out ?_) | (refine arr_loadG (by first | rfl | kernel_rfl) 40 _ rfl w35.heap.size rfl 40 .i64 TT V1_45.out _ Tryz.underlying40 rfl 64 (by kernel_rfl) HTTL.out ?_) | (refine arr_loadG (by first | rfl | kernel_rfl) 40 _ rfl w37.heap.size rfl 40 .i64 LT V2_45.out _ Tryz.underlying40 rfl 64 (by kernel_rfl) HLTL.out ?_) | (refine arr_loadG (by first | rfl | kernel_rfl) 40 _ rfl w39.heap.size rfl 40 .i64 LT V3_45.out _ Tryz.underlying40 rfl 64 (by kernel_rfl) HLTL.out ?_))
                refine (impl_ValidPrint.arr T HTL.out HT16.out _).mono ?_
                rintro e w46 ⟨rfl, hb⟩
                rw [HDT.out]
                have N_46 := Aside0.mk (ArrAt.below N_45.out hb)
                have Q0_46 := Aside0.mk (ArrAt.below Q0_45.out hb)
                have Q1_46 := Aside0.mk (ArrAt.below Q1_45.out hb)
                have P_46 := Aside0.mk (Kd.C_below P_45.out hb)
                have S_46 := Aside0.mk (Kd.C_below S_45.out hb)
                have HB_46 := Aside0.mk (below_step HB_45.out hb)
                have G_46 := Aside0.mk (ArrAt.below G_45.out hb)
                have C_46 := Aside0.mk (Kd.C_below C_45.out hb)
                have L_46 := Aside0.mk (Kd.C_below L_45.out hb)
                have V0_46 := Aside0.mk (ArrAt.below V0_45.out hb)
                have V1_46 := Aside0.mk (ArrAt.below V1_45.out hb)
                have V2_46 := Aside0.mk (ArrAt.below V2_45.out hb)
                have V3_46 := Aside0.mk (ArrAt.below V3_45.out hb)
                clear hb N_45 Q0_45 Q1_45 P_45 S_45 HB_45 G_45 C_45 L_45 V0_45 V1_45 V2_45 V3_45
                as_aux_lemma =>
                  go_wp2_with (first | (refine arr_loadG (by first | rfl | kernel_rfl) 26 _ rfl w3.heap.size rfl 26 .i16 xs N_46.out _ Tryz.underlying26 rfl 64 (by kernel_rfl) HX.out ?_) | (refine arr_loadG (by first | rfl | kernel_rfl) 33 _ rfl w7.heap.size rfl 33 .i16 T Q0_46.out _ Tryz.underlying33 rfl 64 (by kernel_rfl) HTL.out ?_) | (refine arr_loadG (by first | rfl | kernel_rfl) 33 _ rfl w9.heap.size rfl 33 .i16 T Q1_46.out _ Tryz.underlying33 rfl 64 (by kernel_rfl) HTL.out ?_) | (refine arr_loadG (by first | rfl | kernel_rfl) 33 _ rfl gG rfl 33 .i16 T G_46.out _ Tryz.underlying33 rfl 64 (by kernel_rfl) HTL.out ?_) | (refine arr_loadG (by first | rfl | kernel_rfl) 40 _ rfl w33.heap.size rfl 40 .i64 TT V0_46.out _ Tryz.underlying40 rfl 64 (by kernel_rfl) HTTL.out ?_) | (refine arr_loadG (by first | rfl | kernel_rfl) 40 _ rfl w35.heap.size rfl 40 .i64 TT V1_46.out _ Tryz.underlying40 rfl 64 (by kernel_rfl) HTTL.out ?_) | (refine arr_loadG (by first | rfl | kernel_rfl) 40 _ rfl w37.heap.size rfl 40 .i64 LT V2_46.out _ Tryz.underlying40 rfl 64 (by kernel_rfl) HLTL.out ?_) | (refine arr_loadG (by first | rfl | kernel_rfl) 40 _ rfl w39.heap.size rfl 40 .i64 LT V3_46.out _ Tryz.underlying40 rfl 64 (by kernel_rfl) HLTL.out ?_))
                  refine (impl_ValidSteps.calls _ _ S true _ S_46.out S_c.out HVS.out).mono ?_
                  rintro e w47 ⟨rfl, hb⟩
                  have N_47 := Aside0.mk (ArrAt.below N_46.out hb)
                  have Q0_47 := Aside0.mk (ArrAt.below Q0_46.out hb)
                  have Q1_47 := Aside0.mk (ArrAt.below Q1_46.out hb)
                  have P_47 := Aside0.mk (Kd.C_below P_46.out hb)
                  have S_47 := Aside0.mk (Kd.C_below S_46.out hb)
                  have HB_47 := Aside0.mk (below_step HB_46.out hb)
                  have G_47 := Aside0.mk (ArrAt.below G_46.out hb)
                  have C_47 := Aside0.mk (Kd.C_below C_46.out hb)
                  have L_47 := Aside0.mk (Kd.C_below L_46.out hb)
                  have V0_47 := Aside0.mk (ArrAt.below V0_46.out hb)
                  have V1_47 := Aside0.mk (ArrAt.below V1_46.out hb)
                  have V2_47 := Aside0.mk (ArrAt.below V2_46.out hb)
                  have V3_47 := Aside0.mk (ArrAt.below V3_46.out hb)
                  clear hb N_46 Q0_46 Q1_46 P_46 S_46 HB_46 G_46 C_46 L_46 V0_46 V1_46 V2_46 V3_46
                  as_aux_lemma =>
                    go_wp2_with fail
                    go_meet
                    case rel => exact ⟨rfl, N_47, Q1_47, V1_47, V3_47, P_47, S_47, HB_47⟩
    case rest =>
      clear N_41 Q0_41 Q1_41 P_41 S_41 HB_41 G_41 C_41 L_41 V0_41 V1_41 V2_41 V3_41
      obtain ⟨rfl, F_Nb, F_Q1b, F_V1b, F_V3b, F_Pb, F_Sb, HBb⟩ := hcut
      go_wp2_with (first | ((with_reducible refine gate_dst (N := 201) rfl ?_); refine Kd.R_lit k55 _ 55 ?hg (N := 201) ?hd (xs := ([] : List S55)) (inner := []) (ok := fun _ => True) (okp := fun _ => True) ?hr ?hp (fun _ hk => hk) trivial (Below.refl _ _) (Nat.le_refl _) (by simp) ?_; (case hd => rfl); (case hg => rfl); (case hr => first | (go_simp; done) | (go_simp; rfl)); (case hp => exact (Reps.none _ _)); intro v201 wa ho7 hb hg_ hnew_; clear hg_ hnew_; have HO4 := Aside0.mk ho7; have HB4 := Aside0.mk hb; clear hb ho7) | ((with_reducible refine gate_builtin (b := .append) (xs := #[.tmp 201, .tmp 202]) rfl ?_); at_builtin; refine Kd.R_append_rows k55 (w0 := wc) wc.heap.size rfl (.tmp 201) (.tmp 202) 31 55 (.agg #[(.int .u64 0), (.int .i8 0)]) 16 rfl Tryz.underlying31 info55 rfl (by decide) (by omega) v201 [] S _ _ _ (fun _ => True) (fun _ => False) rfl rfl ?aO ?aR (fun _ _ h => h) (fun _ h => h.elim) ?aF ?aB ?aS ?aL ?_; (case aO => exact HO4.out); (case aR => exact Kd.C_below F_Sb.out HB4.out); (case aF => exact fun _ _ => trivial); (case aB => exact HB4.out); (case aS => exact Below.size HB4.out); (case aL => (simp only [List.length_nil, Nat.zero_add]; have := HSL.out; omega)); intro v203 wb ho hb hg hat; clear hg hat; rw [List.nil_append] at ho; have HO5 := Aside0.mk ho; have HB5 := Aside0.mk hb; clear ho hb HO4 HB4))
      refine (spec_P6Mask.calls 300 _ _ l0 m _ (Kd.C_below HR0.out (below_step HBb.out HB5.out)) HC0.out HM.out).mono ?_
      rintro e wm ⟨rfl, hb⟩
      have HO6 := Aside0.mk (Kd.R_below HO5.out hb)
      have HB6 := Aside0.mk (below_step HB5.out hb)
      clear hb HO5 HB5
      go_wp2_with fail
      refine (spec_P6Pick.calls _ _ l0 20 t _ (Kd.C_below HR0.out (below_step HBb.out HB6.out)) HC0.out HTT.out).mono ?_
      rintro e wp ⟨rfl, hb⟩
      have HO7 := Aside0.mk (Kd.R_below HO6.out hb)
      have HB7 := Aside0.mk (below_step HB6.out hb)
      clear hb HO6 HB6
      have ht8 : IntKind.i8.wrap t = t := L_w8 (by have := HTR.out; omega)
      go_upto_region 18 with (first | ((with_reducible refine gate_builtin (b := .append) (xs := #[.tmp 203, .tmp 210]) rfl ?_); at_builtin; refine Kd.R_append k55 (w0 := wc) wc.heap.size rfl (.tmp 203) (.tmp 210) 31 55 (.agg #[(.int .u64 0), (.int .i8 0)]) 16 rfl Tryz.underlying31 info55 rfl (by decide) (by omega) v203 S (⟨m, t⟩ : S55) [.int .u64 m, .int .i8 t] (fun _ => True) (fun _ => False) rfl (by show Value.slice (some ⟨wp.heap.size, 0, none⟩) 1 1 = _; simp) ?aP (fun _ hk => hk.elim) ?aF ?aO ?aB ?aS ?aL ?_; (case aP => exact k55_mkM _ _ _ (⟨m, t⟩ : S55)); (case aB => exact HB7.out); (case aF => exact (fun _ _ => trivial)); (case aO => exact HO7.out); (case aS => exact Below.size HB7.out); (case aL => have := HSL.out; omega); intro v211 wq ho hb hg hat; clear hg hat; rw [← HBE.out] at ho; have HO8 := Aside0.mk ho; have HB8_ := Aside0.mk hb; clear ho hb HO7 HB7))
      clear ht8
      obtain ⟨A_B, c_B, e_B⟩ := Kd.R_slice HO8.out
      subst e_B
      have B_r := Aside0.mk (Kd.R_reads' HO8.out).2.2
      have B_c := Aside0.mk (Kd.R_reads' HO8.out).2.1
      have hbq := HB8_.out
      have N_62 := Aside0.mk (ArrAt.below F_Nb.out hbq)
      have Q1_62 := Aside0.mk (ArrAt.below F_Q1b.out hbq)
      have V1_62 := Aside0.mk (ArrAt.below F_V1b.out hbq)
      have V3_62 := Aside0.mk (ArrAt.below F_V3b.out hbq)
      have P_62 := Aside0.mk (Kd.C_below F_Pb.out hbq)
      have S_62 := Aside0.mk (Kd.C_below F_Sb.out hbq)
      have HB_62 := Aside0.mk (below_step HBb.out hbq)
      clear hbq F_Nb F_Q1b F_V1b F_V3b F_Pb F_Sb HBb
      clear HO8 HB8_
      go_wp2_with (first | (refine arr_load rfl 26 _ rfl w3.heap.size rfl 26 .i16 xs N_62.out _ Tryz.underlying26 rfl 64 (by kernel_rfl) HX.out ?_) | (refine arr_load rfl 33 _ rfl w9.heap.size rfl 33 .i16 T Q1_62.out _ Tryz.underlying33 rfl 64 (by kernel_rfl) HTL.out ?_) | (refine arr_load rfl 40 _ rfl w35.heap.size rfl 40 .i64 TT V1_62.out _ Tryz.underlying40 rfl 64 (by kernel_rfl) HTTL.out ?_) | (refine arr_load rfl 40 _ rfl w39.heap.size rfl 40 .i64 LT V3_62.out _ Tryz.underlying40 rfl 64 (by kernel_rfl) HLTL.out ?_))
      refine (impl_PrintFrom.arr xs HX.out (RA_16 HXA.out) _ _ P _ _ B _ P_62.out P_c.out B_r.out B_c.out HPI.out HPL.out HB8.out HBN.out).mono ?_
      rintro e w63 ⟨rfl, hb⟩
      rw [HP2.out]
      have N_63 := Aside0.mk (ArrAt.below N_62.out hb)
      have Q1_63 := Aside0.mk (ArrAt.below Q1_62.out hb)
      have V1_63 := Aside0.mk (ArrAt.below V1_62.out hb)
      have V3_63 := Aside0.mk (ArrAt.below V3_62.out hb)
      have P_63 := Aside0.mk (Kd.C_below P_62.out hb)
      have S_63 := Aside0.mk (Kd.C_below S_62.out hb)
      have HB_63 := Aside0.mk (below_step HB_62.out hb)
      have B_63 := Aside0.mk (Kd.C_below B_r.out hb)
      clear hb N_62 Q1_62 V1_62 V3_62 P_62 S_62 HB_62 B_r
      have D0_n := Aside0.mk (ArrAt.new w63 33 .i16 (zer 64))
      have D0_0 := Aside0.mk (D0_n.out.row (ys := TB))
      have hba := below_row (below_alloc (Below.refl w63.heap.size w63) (.cells (nums .i16 (zer 64)).toArray 33)) (Nat.le_refl w63.heap.size) (nums .i16 TB).toArray
      have N_64 := Aside0.mk (ArrAt.below N_63.out hba)
      have Q1_64 := Aside0.mk (ArrAt.below Q1_63.out hba)
      have V1_64 := Aside0.mk (ArrAt.below V1_63.out hba)
      have V3_64 := Aside0.mk (ArrAt.below V3_63.out hba)
      have P_64 := Aside0.mk (Kd.C_below P_63.out hba)
      have S_64 := Aside0.mk (Kd.C_below S_63.out hba)
      have HB_64 := Aside0.mk (below_step HB_63.out hba)
      have B_64 := Aside0.mk (Kd.C_below B_63.out hba)
      clear hba N_63 Q1_63 V1_63 V3_63 P_63 S_63 HB_63 B_63
      go_wp2_with (first | (refine arr_store rfl 33 _ _ rfl w63.heap.size .i16 TB rfl rfl 33 (zer 64) D0_n.out 64 (by kernel_rfl) (zer_len 64) HTBL.out ?_) | (refine arr_load rfl 26 _ rfl w3.heap.size rfl 26 .i16 xs N_64.out _ Tryz.underlying26 rfl 64 (by kernel_rfl) HX.out ?_) | (refine arr_load rfl 33 _ rfl w9.heap.size rfl 33 .i16 T Q1_64.out _ Tryz.underlying33 rfl 64 (by kernel_rfl) HTL.out ?_) | (refine arr_load rfl 40 _ rfl w35.heap.size rfl 40 .i64 TT V1_64.out _ Tryz.underlying40 rfl 64 (by kernel_rfl) HTTL.out ?_) | (refine arr_load rfl 40 _ rfl w39.heap.size rfl 40 .i64 LT V3_64.out _ Tryz.underlying40 rfl 64 (by kernel_rfl) HLTL.out ?_) | (refine arr_load rfl 33 _ rfl w63.heap.size rfl 33 .i16 TB D0_0.out _ Tryz.underlying33 rfl 64 (by kernel_rfl) HTBL.out ?_))
      refine (impl_MirrorNegative.arr xs HX.out (RA_16 HXA.out) _).mono ?_
      rintro e w65 ⟨rfl, hb⟩
      rw [HMV.out]
      have N_65 := Aside0.mk (ArrAt.below N_64.out hb)
      have Q1_65 := Aside0.mk (ArrAt.below Q1_64.out hb)
      have V1_65 := Aside0.mk (ArrAt.below V1_64.out hb)
      have V3_65 := Aside0.mk (ArrAt.below V3_64.out hb)
      have P_65 := Aside0.mk (Kd.C_below P_64.out hb)
      have S_65 := Aside0.mk (Kd.C_below S_64.out hb)
      have HB_65 := Aside0.mk (below_step HB_64.out hb)
      have B_65 := Aside0.mk (Kd.C_below B_64.out hb)
      have D0_65 := Aside0.mk (ArrAt.below D0_0.out hb)
      clear hb N_64 Q1_64 V1_64 V3_64 P_64 S_64 HB_64 B_64 D0_0
      have E0_n := Aside0.mk (ArrAt.new w65 26 .i16 (zer 64))
      have E0_0 := Aside0.mk (E0_n.out.row (ys := E))
      have hba := below_row (below_alloc (Below.refl w65.heap.size w65) (.cells (nums .i16 (zer 64)).toArray 26)) (Nat.le_refl w65.heap.size) (nums .i16 E).toArray
      have N_66 := Aside0.mk (ArrAt.below N_65.out hba)
      have Q1_66 := Aside0.mk (ArrAt.below Q1_65.out hba)
      have V1_66 := Aside0.mk (ArrAt.below V1_65.out hba)
      have V3_66 := Aside0.mk (ArrAt.below V3_65.out hba)
      have P_66 := Aside0.mk (Kd.C_below P_65.out hba)
      have S_66 := Aside0.mk (Kd.C_below S_65.out hba)
      have HB_66 := Aside0.mk (below_step HB_65.out hba)
      have B_66 := Aside0.mk (Kd.C_below B_65.out hba)
      have D0_66 := Aside0.mk (ArrAt.below D0_65.out hba)
      clear hba N_65 Q1_65 V1_65 V3_65 P_65 S_65 HB_65 B_65 D0_65
      go_wp2_with (first | (refine arr_store rfl 26 _ _ rfl w65.heap.size .i16 E rfl rfl 26 (zer 64) E0_n.out 64 (by kernel_rfl) (zer_len 64) HEL.out ?_) | (refine arr_load rfl 26 _ rfl w3.heap.size rfl 26 .i16 xs N_66.out _ Tryz.underlying26 rfl 64 (by kernel_rfl) HX.out ?_) | (refine arr_load rfl 33 _ rfl w9.heap.size rfl 33 .i16 T Q1_66.out _ Tryz.underlying33 rfl 64 (by kernel_rfl) HTL.out ?_) | (refine arr_load rfl 40 _ rfl w35.heap.size rfl 40 .i64 TT V1_66.out _ Tryz.underlying40 rfl 64 (by kernel_rfl) HTTL.out ?_) | (refine arr_load rfl 40 _ rfl w39.heap.size rfl 40 .i64 LT V3_66.out _ Tryz.underlying40 rfl 64 (by kernel_rfl) HLTL.out ?_) | (refine arr_load rfl 33 _ rfl w63.heap.size rfl 33 .i16 TB D0_66.out _ Tryz.underlying33 rfl 64 (by kernel_rfl) HTBL.out ?_) | (refine arr_load rfl 26 _ rfl w65.heap.size rfl 26 .i16 E E0_0.out _ Tryz.underlying26 rfl 64 (by kernel_rfl) HEL.out ?_))
      refine (impl_MirrorSteps.calls 4000 _ _ S M 0 _ S_66.out S_c.out HMR.out).mono ?_
      rintro e w67 ⟨v_M, rfl, ho, hb⟩
      obtain ⟨A_M, c_M, e_M⟩ := Kd.R_slice ho
      subst e_M
      have M_r := Aside0.mk (Kd.R_reads' ho).2.2
      have M_c := Aside0.mk (Kd.R_reads' ho).2.1
      clear ho
      have N_67 := Aside0.mk (ArrAt.below N_66.out hb)
      have Q1_67 := Aside0.mk (ArrAt.below Q1_66.out hb)
      have V1_67 := Aside0.mk (ArrAt.below V1_66.out hb)
      have V3_67 := Aside0.mk (ArrAt.below V3_66.out hb)
      have P_67 := Aside0.mk (Kd.C_below P_66.out hb)
      have S_67 := Aside0.mk (Kd.C_below S_66.out hb)
      have HB_67 := Aside0.mk (below_step HB_66.out hb)
      have B_67 := Aside0.mk (Kd.C_below B_66.out hb)
      have D0_67 := Aside0.mk (ArrAt.below D0_66.out hb)
      have E0_67 := Aside0.mk (ArrAt.below E0_0.out hb)
      clear hb N_66 Q1_66 V1_66 V3_66 P_66 S_66 HB_66 B_66 D0_66 E0_0
      go_wp2_with (first | (refine arr_load rfl 26 _ rfl w3.heap.size rfl 26 .i16 xs N_67.out _ Tryz.underlying26 rfl 64 (by kernel_rfl) HX.out ?_) | (refine arr_load rfl 33 _ rfl w9.heap.size rfl 33 .i16 T Q1_67.out _ Tryz.underlying33 rfl 64 (by kernel_rfl) HTL.out ?_) | (refine arr_load rfl 40 _ rfl w35.heap.size rfl 40 .i64 TT V1_67.out _ Tryz.underlying40 rfl 64 (by kernel_rfl) HTTL.out ?_) | (refine arr_load rfl 40 _ rfl w39.heap.size rfl 40 .i64 LT V3_67.out _ Tryz.underlying40 rfl 64 (by kernel_rfl) HLTL.out ?_) | (refine arr_load rfl 33 _ rfl w63.heap.size rfl 33 .i16 TB D0_67.out _ Tryz.underlying33 rfl 64 (by kernel_rfl) HTBL.out ?_) | (refine arr_load rfl 26 _ rfl w65.heap.size rfl 26 .i16 E E0_67.out _ Tryz.underlying26 rfl 64 (by kernel_rfl) HEL.out ?_))
      refine (impl_PrintFrom.arr E HEL.out HE16.out _ _ P _ _ M _ P_67.out P_c.out M_r.out M_c.out HPI.out HPL.out HM8.out HMN.out).mono ?_
      rintro e w68 ⟨rfl, hb⟩
      rw [HP3.out]
      have N_68 := Aside0.mk (ArrAt.below N_67.out hb)
      have Q1_68 := Aside0.mk (ArrAt.below Q1_67.out hb)
      have V1_68 := Aside0.mk (ArrAt.below V1_67.out hb)
      have V3_68 := Aside0.mk (ArrAt.below V3_67.out hb)
      have P_68 := Aside0.mk (Kd.C_below P_67.out hb)
      have S_68 := Aside0.mk (Kd.C_below S_67.out hb)
      have HB_68 := Aside0.mk (below_step HB_67.out hb)
      have B_68 := Aside0.mk (Kd.C_below B_67.out hb)
      have D0_68 := Aside0.mk (ArrAt.below D0_67.out hb)
      have E0_68 := Aside0.mk (ArrAt.below E0_67.out hb)
      have M_68 := Aside0.mk (Kd.C_below M_r.out hb)
      clear hb N_67 Q1_67 V1_67 V3_67 P_67 S_67 HB_67 B_67 D0_67 E0_67 M_r
      have M0_n := Aside0.mk (ArrAt.new w68 33 .i16 (zer 64))
      have M0_0 := Aside0.mk (M0_n.out.row (ys := TM))
      have hba := below_row (below_alloc (Below.refl w68.heap.size w68) (.cells (nums .i16 (zer 64)).toArray 33)) (Nat.le_refl w68.heap.size) (nums .i16 TM).toArray
      have N_69 := Aside0.mk (ArrAt.below N_68.out hba)
      have Q1_69 := Aside0.mk (ArrAt.below Q1_68.out hba)
      have V1_69 := Aside0.mk (ArrAt.below V1_68.out hba)
      have V3_69 := Aside0.mk (ArrAt.below V3_68.out hba)
      have P_69 := Aside0.mk (Kd.C_below P_68.out hba)
      have S_69 := Aside0.mk (Kd.C_below S_68.out hba)
      have HB_69 := Aside0.mk (below_step HB_68.out hba)
      have B_69 := Aside0.mk (Kd.C_below B_68.out hba)
      have D0_69 := Aside0.mk (ArrAt.below D0_68.out hba)
      have E0_69 := Aside0.mk (ArrAt.below E0_68.out hba)
      have M_69 := Aside0.mk (Kd.C_below M_68.out hba)
      clear hba N_68 Q1_68 V1_68 V3_68 P_68 S_68 HB_68 B_68 D0_68 E0_68 M_68
      go_wp2_with (first | (refine arr_store rfl 33 _ _ rfl w68.heap.size .i16 TM rfl rfl 33 (zer 64) M0_n.out 64 (by kernel_rfl) (zer_len 64) HTML.out ?_))
      go_loopg [37, 38] 64 (fun kj v37 v38 w' => ∃ (bb : Bool) (j : Int) (V : World), V = w' ∧ v37 = .bool bb ∧ v38 = .int .i64 j ∧ Aside0 (0 ≤ j ∧ j + kj = 64) ∧ Aside0 (∀ i : Int, 0 ≤ i → i < j → rd T i = lo → bb = true) ∧ Aside0 (ArrAt V w3.heap.size 26 .i16 xs) ∧ Aside0 (ArrAt V w9.heap.size 33 .i16 T) ∧ Aside0 (ArrAt V w35.heap.size 40 .i64 TT) ∧ Aside0 (ArrAt V w39.heap.size 40 .i64 LT) ∧ Aside0 (ArrAt V w63.heap.size 33 .i16 TB) ∧ Aside0 (ArrAt V w68.heap.size 33 .i16 TM) ∧ Aside0 (Kd.C k102 V A_P P.length P) ∧ Aside0 (Below w.heap.size w V))
      case atStart => exact ⟨false, 0, _, rfl, rfl, rfl, ⟨by omega⟩, ⟨fun i i0 i1 _ => by omega⟩, N_69, Q1_69, V1_69, V3_69, D0_69, M0_0, P_69, HB_69⟩
      case round =>
        as_aux_lemma =>
        clear N_69 Q1_69 V1_69 V3_69 P_69 S_69 HB_69 B_69 D0_69 E0_69 M_69 M0_0
        obtain ⟨bb, j, V, rfl, rfl, rfl, HJ, HBB, F_N, F_Q1, F_V1, F_V3, F_D0, F_M0, F_P, HB⟩ := hrel
        cases gk with
        | zero =>
          have hdec2 : decide (j < 64) = false := decide_eq_false (by have := HJ.out; omega)
          obtain rfl : bb = true := by
            obtain ⟨i, i0, i1, ie⟩ := HLH.out.2
            exact HBB.out i i0 (by have := HJ.out; omega) ie
          go_wp2_with fail
          go_ret
          exact ⟨rfl, HB.out⟩
        | succ j1 =>
          have j0 := HJ.out.1
          have hj : j < 64 := by have := HJ.out; omega
          have hdec2 : decide (j < 64) = true := decide_eq_true hj
          have hwj : wrap64 (j + 1) = j + 1 := by unfold wrap64; omega
          obtain ⟨h1, h2, h3⟩ := HA4.out j j0 hj
          have hx := arr_rd (P := fun x => 0 ≤ x ∧ x ≤ 400) HXA.out j0 (by rw [HX.out]; omega)
          obtain ⟨tj, htj⟩ : ∃ tj, tj = rd TT j := ⟨_, rfl⟩
          rw [← htj] at h1
          obtain ⟨lj, hlj⟩ : ∃ lj, lj = rd LT j := ⟨_, rfl⟩
          rw [← hlj] at h1
          obtain ⟨xj, hxj⟩ : ∃ xj, xj = rd xs j := ⟨_, rfl⟩
          rw [← hxj] at h1 hx
          obtain ⟨pj, hpj⟩ : ∃ pj, pj = rd T j := ⟨_, rfl⟩
          rw [← hpj] at h1 h2 h3
          obtain ⟨bj, hbj⟩ : ∃ bj, bj = rd TB j := ⟨_, rfl⟩
          rw [← hbj] at h2
          have HH1 := Aside0.mk h1
          have HH2 := Aside0.mk h2
          have HH3 := Aside0.mk h3
          have HHX := Aside0.mk hx
          have HPJ := Aside0.mk hpj
          have HLJ := Aside0.mk hlj
          have HXJ := Aside0.mk hxj
          have HTJ := Aside0.mk htj
          have HBJ := Aside0.mk hbj
          have c1 : V.cell? ⟨w35.heap.size, j.toNat, none⟩ = some (.int .i64 tj) := by rw [htj]; exact F_V1.out.cell j0 (by rw [HTTL.out]; omega)
          clear h1 h2 h3 hx htj hlj hxj hpj hbj
          go_upto_if 257 with fail
          go_cut [] (fun wc => Aside0 (ArrAt wc w3.heap.size 26 .i16 xs) ∧ Aside0 (ArrAt wc w9.heap.size 33 .i16 T) ∧ Aside0 (ArrAt wc w35.heap.size 40 .i64 TT) ∧ Aside0 (ArrAt wc w39.heap.size 40 .i64 LT) ∧ Aside0 (ArrAt wc w63.heap.size 33 .i16 TB) ∧ Aside0 (ArrAt wc w68.heap.size 33 .i16 TM) ∧ Aside0 (Kd.C k102 wc A_P P.length P) ∧ Aside0 (Below w.heap.size w wc))
          case first =>
            as_aux_lemma =>
            rcases HH1.out with ⟨z0, z1⟩ | ⟨z0, z1, z2, z3⟩
            · have c2 : V.cell? ⟨w39.heap.size, j.toNat, none⟩ = some (.int .i64 lj) := by rw [HLJ.out]; exact F_V3.out.cell j0 (by rw [HLTL.out]; omega)
              have e1 : (tj == 0) = true := by rw [z0]; rfl
              have e2 : (lj != -1) = false := by rw [z1]; rfl
              clear z0 z1
              try rw [e1]
              go_wp2_with fail
              go_meet
              case rel => exact ⟨F_N, F_Q1, F_V1, F_V3, F_D0, F_M0, F_P, HB⟩
            · have e1 : (tj == 0) = false := beq_eq_false_iff_ne.mpr (by omega)
              have HTI := Aside0.mk (L_thirdsIn (s := tj) z0 (k := 40) (by omega))
              have HZ2 := Aside0.mk z2
              have HZ3 := Aside0.mk z3
              obtain rfl : lj = D_in tj := z1
              obtain ⟨q, hq⟩ : ∃ q, q = D_in tj := ⟨_, rfl⟩
              rw [← hq] at HTI HZ2 HZ3 HLJ
              have hin := L_inSpec tj
              rw [← hq] at hin
              have HIN := Aside0.mk (show -1 ≤ q ∧ q ≤ 36 from ⟨hin.1, hin.2.1⟩)
              clear z0 z2 z3 hin hq
              try rw [e1]
              go_wp2_with fail
              refine (impl_ThirdsIn.calls 40 tj q 0 _ HTI.out).mono ?_
              rintro e w90 ⟨rfl, hb⟩
              have N_90 := Aside0.mk (ArrAt.below F_N.out hb.below)
              have Q1_90 := Aside0.mk (ArrAt.below F_Q1.out hb.below)
              have V1_90 := Aside0.mk (ArrAt.below F_V1.out hb.below)
              have V3_90 := Aside0.mk (ArrAt.below F_V3.out hb.below)
              have D0_90 := Aside0.mk (ArrAt.below F_D0.out hb.below)
              have M0_90 := Aside0.mk (ArrAt.below F_M0.out hb.below)
              have P_90 := Aside0.mk (Kd.C_below F_P.out hb.below)
              have HB_90 := Aside0.mk (below_step HB.out hb.below)
              clear hb F_N F_Q1 F_V1 F_V3 F_D0 F_M0 F_P HB
              have hx := HHX.out
              have c2 : w90.cell? ⟨w39.heap.size, j.toNat, none⟩ = some (.int .i64 q) := by rw [HLJ.out]; exact V3_90.out.cell j0 (by rw [HLTL.out]; omega)
              have c3 : w90.cell? ⟨w3.heap.size, j.toNat, none⟩ = some (.int .i16 xj) := by rw [HXJ.out]; exact N_90.out.cell j0 (by rw [HX.out]; omega)
              have c4 : w90.cell? ⟨w9.heap.size, j.toNat, none⟩ = some (.int .i16 pj) := by rw [HPJ.out]; exact Q1_90.out.cell j0 (by rw [HTL.out]; omega)
              have hinq := HIN.out
              have u0 : IntKind.i64.wrap xj = xj := by simp [IntKind.wrap, IntKind.bits, IntKind.signed]; omega
              have u1 : IntKind.i64.wrap (xj + 5) = xj + 5 := by simp [IntKind.wrap, IntKind.bits, IntKind.signed]; omega
              have u2 : (xj + 5).tdiv 10 = (xj + 5) / 10 := Int.tdiv_eq_ediv_of_nonneg (by omega)
              have u3 : IntKind.i64.wrap ((xj + 5) / 10) = (xj + 5) / 10 := by simp [IntKind.wrap, IntKind.bits, IntKind.signed]; omega
              have u4 : IntKind.i64.wrap (q - (xj + 5) / 10) = q - (xj + 5) / 10 := by simp [IntKind.wrap, IntKind.bits, IntKind.signed]; omega
              have HCA := Aside0.mk (L_curveAtOk P HPC.out HPI.out (by have := HPX.out; omega) HZ2.out)
              rw [HZ3.out] at HCA
              clear hinq
              go_wp2_with fail
              refine ra_region (S := fun w' => Below w90.heap.size w90 w' ∧ w'.cell? ⟨w39.heap.size, j.toNat, none⟩ = some (.int .i64 q) ∧ w'.cell? ⟨w3.heap.size, j.toNat, none⟩ = some (.int .i16 xj)) (by kernel_rfl) ⟨below_drew1 (Below.refl _ _), by simpa using c2, by simpa using c3⟩ (fun V0 hHeld => ?_)
              refine wpAnyH_take (i := 0) (v := ?_) rfl (by kernel_rfl) (by kernel_rfl) (by kernel_rfl) (fun _ _ _ h => h) (Or.inl ⟨by rfl, ?_⟩) (by assumption) ?_
              rotate_left
              · intro w hSw
                go_simp
                with_reducible rfl
              try simp only [List.getElem_toArray, List.getElem_cons_succ, List.getElem_cons_zero, Act.put, List.setIfInBounds_toArray, List.set_cons_zero, List.set_cons_succ]
              refine wpAnyH_take (i := 1) (v := ?_) rfl (by kernel_rfl) (by kernel_rfl) (by kernel_rfl) (fun _ _ _ h => h) (Or.inl ⟨by rfl, ?_⟩) (by assumption) ?_
              rotate_left
              · intro w hSw
                go_simp
                with_reducible rfl
              try simp only [List.getElem_toArray, List.getElem_cons_succ, List.getElem_cons_zero, Act.put, List.setIfInBounds_toArray, List.set_cons_zero, List.set_cons_succ]
              refine wpAnyH_take (i := 2) (v := ?_) rfl (by kernel_rfl) (by kernel_rfl) (by kernel_rfl) (fun _ _ _ h => h) (Or.inl ⟨by rfl, ?_⟩) (by assumption) ?_
              rotate_left
              · intro w hSw
                go_simp
                with_reducible rfl
              try simp only [List.getElem_toArray, List.getElem_cons_succ, List.getElem_cons_zero, Act.put, List.setIfInBounds_toArray, List.set_cons_zero, List.set_cons_succ]
              refine wpAnyH_take (i := 3) (v := ?_) rfl (by kernel_rfl) (by kernel_rfl) (by kernel_rfl) (fun _ _ _ h => h) (Or.inl ⟨by rfl, ?_⟩) (by assumption) ?_
              rotate_left
              · intro w hSw
                go_simp
                with_reducible rfl
              try simp only [List.getElem_toArray, List.getElem_cons_succ, List.getElem_cons_zero, Act.put, List.setIfInBounds_toArray, List.set_cons_zero, List.set_cons_succ]
              refine wpAnyH_take (i := 4) (v := ?_) rfl (by kernel_rfl) (by kernel_rfl) (by kernel_rfl) (fun _ _ _ h => h) (Or.inl ⟨by rfl, ?_⟩) (by assumption) ?_
              rotate_left
              · intro w hSw
                go_simp
                with_reducible rfl
              try simp only [List.getElem_toArray, List.getElem_cons_succ, List.getElem_cons_zero, Act.put, List.setIfInBounds_toArray, List.set_cons_zero, List.set_cons_succ]
              refine wpAnyH_take (i := 5) (v := ?_) rfl (by kernel_rfl) (by kernel_rfl) (by kernel_rfl) (fun _ _ _ h => h) (Or.inl ⟨by rfl, ?_⟩) (by assumption) ?_
              rotate_left
              · intro w hSw
                go_simp
                with_reducible rfl
              try simp only [List.getElem_toArray, List.getElem_cons_succ, List.getElem_cons_zero, Act.put, List.setIfInBounds_toArray, List.set_cons_zero, List.set_cons_succ]
              refine wpAnyH_take (i := 6) (v := ?_) rfl (by kernel_rfl) (by kernel_rfl) (by kernel_rfl) (fun _ _ _ h => h) (Or.inl ⟨by rfl, ?_⟩) (by assumption) ?_
              rotate_left
              · intro w hSw
                go_simp
                with_reducible rfl
              try simp only [List.getElem_toArray, List.getElem_cons_succ, List.getElem_cons_zero, Act.put, List.setIfInBounds_toArray, List.set_cons_zero, List.set_cons_succ]
              refine wpAnyH_take (i := 7) (v := ?_) rfl (by kernel_rfl) (by kernel_rfl) (by kernel_rfl) (fun _ _ _ h => h) (Or.inl ⟨by rfl, ?_⟩) (by assumption) ?_
              rotate_left
              · intro w hSw
                go_simp
                with_reducible rfl
              try simp only [List.getElem_toArray, List.getElem_cons_succ, List.getElem_cons_zero, Act.put, List.setIfInBounds_toArray, List.set_cons_zero, List.set_cons_succ]
              refine wpAnyH_take (i := 8) (v := ?_) rfl (by kernel_rfl) (by kernel_rfl) (by kernel_rfl) (fun _ _ _ h => h) (Or.inl ⟨by rfl, ?_⟩) (by assumption) ?_
              rotate_left
              · intro w hSw
                go_simp
                with_reducible rfl
              try simp only [List.getElem_toArray, List.getElem_cons_succ, List.getElem_cons_zero, Act.put, List.setIfInBounds_toArray, List.set_cons_zero, List.set_cons_succ]
              refine wpAnyH_take (i := 9) (v := ?_) rfl (by kernel_rfl) (by kernel_rfl) (by kernel_rfl) (fun _ _ _ h => h) (Or.inl ⟨by rfl, ?_⟩) (by assumption) ?_
              rotate_left
              · intro w hSw
                go_simp
                with_reducible rfl
              try simp only [List.getElem_toArray, List.getElem_cons_succ, List.getElem_cons_zero, Act.put, List.setIfInBounds_toArray, List.set_cons_zero, List.set_cons_succ]
              refine wpAnyH_take (i := 10) (v := ?_) rfl (by kernel_rfl) (by kernel_rfl) (by kernel_rfl) (fun _ _ _ h => h) (Or.inl ⟨by rfl, ?_⟩) (by assumption) ?_
              rotate_left
              · intro w hSw
                go_simp
                with_reducible rfl
              try simp only [List.getElem_toArray, List.getElem_cons_succ, List.getElem_cons_zero, Act.put, List.setIfInBounds_toArray, List.set_cons_zero, List.set_cons_succ]
              refine wpAnyH_ready (rs := [11]) (by kernel_rfl) (by simp) ?_
              refine AllReadyH.cons rfl (fun K hK => ?_) AllReadyH.nil
              obtain ⟨q1, q2, q3⟩ := hHeld
              go_simp
              refine (impl_CurveAt.calls 200 _ _ P (q - (xj + 5) / 10) pj 0 _ (Kd.C_below P_90.out q1) P_c.out HCA.out).mono ?_
              rintro e w91 ⟨rfl, hb⟩
              go_wp2_with fail
              refine hK.out _ _ ⟨below_step q1 hb, (hb.cell (World.block_lt_of_cell? _ _ q2)).trans q2, (hb.cell (World.block_lt_of_cell? _ _ q3)).trans q3⟩ (fun hHeld => ?_)
              clear hK K hb q1 q2 q3
              try simp only [List.getElem_toArray, List.getElem_cons_succ, List.getElem_cons_zero, Act.put, List.setIfInBounds_toArray, List.set_cons_zero, List.set_cons_succ]
              refine wpAnyH_take (i := 12) (v := ?_) rfl (by kernel_rfl) (by kernel_rfl) (by kernel_rfl) (fun _ _ _ h => h) (Or.inl ⟨by rfl, ?_⟩) (by assumption) ?_
              rotate_left
              · intro w hSw
                go_simp
                with_reducible rfl
              try simp only [List.getElem_toArray, List.getElem_cons_succ, List.getElem_cons_zero, Act.put, List.setIfInBounds_toArray, List.set_cons_zero, List.set_cons_succ]
              refine wpAnyH_take (i := 13) (v := ?_) rfl (by kernel_rfl) (by kernel_rfl) (by kernel_rfl) (fun _ _ _ h => h) (Or.inl ⟨by rfl, ?_⟩) (by assumption) ?_
              rotate_left
              · intro w hSw
                go_simp
                with_reducible rfl
              try simp only [List.getElem_toArray, List.getElem_cons_succ, List.getElem_cons_zero, Act.put, List.setIfInBounds_toArray, List.set_cons_zero, List.set_cons_succ]
              refine wpAnyH_take (i := 14) (v := ?_) rfl (by kernel_rfl) (by kernel_rfl) (by kernel_rfl) (fun _ _ _ h => h) (Or.inl ⟨by rfl, ?_⟩) (by assumption) ?_
              rotate_left
              · intro w hSw
                go_simp
                with_reducible rfl
              try simp only [List.getElem_toArray, List.getElem_cons_succ, List.getElem_cons_zero, Act.put, List.setIfInBounds_toArray, List.set_cons_zero, List.set_cons_succ]
              refine wpAnyH_take (i := 15) (v := ?_) rfl (by kernel_rfl) (by kernel_rfl) (by kernel_rfl) (fun _ _ _ h => h) (Or.inl ⟨by rfl, ?_⟩) (by assumption) ?_
              rotate_left
              · intro w hSw
                go_simp
                with_reducible rfl
              try simp only [List.getElem_toArray, List.getElem_cons_succ, List.getElem_cons_zero, Act.put, List.setIfInBounds_toArray, List.set_cons_zero, List.set_cons_succ]
              refine wpAnyH_take (i := 16) (v := ?_) rfl (by kernel_rfl) (by kernel_rfl) (by kernel_rfl) (fun _ _ _ h => h) (Or.inl ⟨by rfl, ?_⟩) (by assumption) ?_
              rotate_left
              · intro w hSw
                go_simp
                with_reducible rfl
              try simp only [List.getElem_toArray, List.getElem_cons_succ, List.getElem_cons_zero, Act.put, List.setIfInBounds_toArray, List.set_cons_zero, List.set_cons_succ]
              refine wpAnyH_done (by kernel_rfl) ?_ _
              obtain ⟨q1, q2, q3⟩ := hHeld
              have d2 : w91.cell? ⟨w39.heap.size, j.toNat, none⟩ = some (.int .i64 q) := q2
              have d4 : w91.cell? ⟨w9.heap.size, j.toNat, none⟩ = some (.int .i16 pj) := (q1.cell (World.block_lt_of_cell? _ _ c4)).trans c4
              have HQ1_ := Aside0.mk q1
              have v0 : IntKind.i64.wrap pj = pj := by have h_ := arr_rd (P := fun x => -32768 ≤ x ∧ x ≤ 32767) HT16.out j0 (by rw [HTL.out]; omega); rw [← HPJ.out] at h_; simp [IntKind.wrap, IntKind.bits, IntKind.signed]; omega
              clear q1 q2 q3 c2 c3 c4
              go_wp2_with fail
              go_meet
              case rel => exact ⟨⟨ArrAt.below N_90.out HQ1_.out⟩, ⟨ArrAt.below Q1_90.out HQ1_.out⟩, ⟨ArrAt.below V1_90.out HQ1_.out⟩, ⟨ArrAt.below V3_90.out HQ1_.out⟩, ⟨ArrAt.below D0_90.out HQ1_.out⟩, ⟨ArrAt.below M0_90.out HQ1_.out⟩, ⟨Kd.C_below P_90.out HQ1_.out⟩, ⟨below_step HB_90.out HQ1_.out⟩⟩
          case rest =>
            as_aux_lemma =>
            clear c1 F_N F_Q1 F_V1 F_V3 F_D0 F_M0 F_P HB
            obtain ⟨F_Nc, F_Q1c, F_V1c, F_V3c, F_D0c, F_M0c, F_Pc, HBc⟩ := hcut
            have hlh := HLH.out.1 j j0 hj
            have h16 := arr_rd (P := fun x => -32768 ≤ x ∧ x ≤ 32767) HT16.out j0 (by rw [HTL.out]; omega)
            rw [← HPJ.out] at hlh h16
            have d1 : wc.cell? ⟨w63.heap.size, j.toNat, none⟩ = some (.int .i16 bj) := by rw [HBJ.out]; exact F_D0c.out.cell j0 (by rw [HTBL.out]; omega)
            have d2 : wc.cell? ⟨w9.heap.size, j.toNat, none⟩ = some (.int .i16 pj) := by rw [HPJ.out]; exact F_Q1c.out.cell j0 (by rw [HTL.out]; omega)
            have p0 : 0 ≤ j / 8 * 8 + 7 - j % 8 := by omega
            have p1 : j / 8 * 8 + 7 - j % 8 < 64 := by omega
            have d3 : wc.cell? ⟨w68.heap.size, (j / 8 * 8 + 7 - j % 8).toNat, none⟩ = some (.int .i16 pj) := by
              have h_ := F_M0c.out.cell p0 (by rw [HTML.out]; omega)
              rw [show rd TM (j / 8 * 8 + 7 - j % 8) = pj from HH3.out] at h_
              exact h_
            have t1 : j.tdiv 8 = j / 8 := Int.tdiv_eq_ediv_of_nonneg j0
            have t2 : j.tmod 8 = j % 8 := Int.tmod_eq_emod_of_nonneg j0
            have u0 : IntKind.i64.wrap (j / 8) = j / 8 := by simp [IntKind.wrap, IntKind.bits, IntKind.signed]; omega
            have u1 : IntKind.i64.wrap (j / 8 * 8) = j / 8 * 8 := by simp [IntKind.wrap, IntKind.bits, IntKind.signed]; omega
            have u2 : IntKind.i64.wrap (j / 8 * 8 + 7) = j / 8 * 8 + 7 := by simp [IntKind.wrap, IntKind.bits, IntKind.signed]; omega
            have u3 : IntKind.i64.wrap (j / 8 * 8 + 7 - j % 8) = j / 8 * 8 + 7 - j % 8 := by simp [IntKind.wrap, IntKind.bits, IntKind.signed]; omega
            have u4 : IntKind.i64.wrap (pj) = pj := by simp [IntKind.wrap, IntKind.bits, IntKind.signed]; omega
            have z1 : decide (bj < pj) = false := decide_eq_false (by have := HH2.out; omega)
            have z2 : decide (pj < lo) = false := decide_eq_false (by omega)
            have z3 : decide (pj > hi) = false := decide_eq_false (by omega)
            obtain ⟨ji, hji, q0, q1, d4⟩ : ∃ ji : Int, IntKind.i64.wrap (j / 8 * 8 + 7 - j % 8) = ji ∧ 0 ≤ ji ∧ ji < 64 ∧ wc.cell? ⟨w68.heap.size, ji.toNat, none⟩ = some (.int .i16 pj) := ⟨_, u3, p0, p1, d3⟩
            clear u3 p0 p1 d3
            go_upto_region 35 with fail
            go_cut [342] (fun v1 wc => v1 = .bool false ∧ Aside0 (ArrAt wc w3.heap.size 26 .i16 xs) ∧ Aside0 (ArrAt wc w9.heap.size 33 .i16 T) ∧ Aside0 (ArrAt wc w35.heap.size 40 .i64 TT) ∧ Aside0 (ArrAt wc w39.heap.size 40 .i64 LT) ∧ Aside0 (ArrAt wc w63.heap.size 33 .i16 TB) ∧ Aside0 (ArrAt wc w68.heap.size 33 .i16 TM) ∧ Aside0 (Kd.C k102 wc A_P P.length P) ∧ Aside0 (Below w.heap.size w wc))
            case first =>
              go_region_held3 (fun w' => w'.cell? ⟨w63.heap.size, j.toNat, none⟩ = some (.int .i16 bj) ∧ w'.cell? ⟨w9.heap.size, j.toNat, none⟩ = some (.int .i16 pj) ∧ w'.cell? ⟨w68.heap.size, ji.toNat, none⟩ = some (.int .i16 pj)) (first | go_keep) (fail)
              go_wp2_with fail
              go_meet
              case rel => exact ⟨rfl, ⟨blk_drew F_Nc.out⟩, ⟨blk_drew F_Q1c.out⟩, ⟨blk_drew F_V1c.out⟩, ⟨blk_drew F_V3c.out⟩, ⟨blk_drew F_D0c.out⟩, ⟨blk_drew F_M0c.out⟩, ⟨Kd.C_drew F_Pc.out⟩, ⟨below_drew1 HBc.out⟩⟩
            case rest =>
              clear d1 d2 d4 hji q0 q1 F_Nc F_Q1c F_V1c F_V3c F_D0c F_M0c F_Pc HBc
              obtain ⟨rfl, F_Nd, F_Q1d, F_V1d, F_V3d, F_D0d, F_M0d, F_Pd, HBd⟩ := hcut
              have d2 := F_Q1d.out.cell j0 (by rw [HTL.out]; omega)
              rw [← HPJ.out] at d2
              clear t1 t2 u0 u1 u2 z1 z2 z3 hlh h16
              cases bb
              case false =>
                by_cases hlo : pj = lo
                · have e5 : (pj == lo) = true := by rw [hlo]; simp
                  clear hlo
                  go_wp2_with fail
                  go_roundg j1
                  case measure => omega
                  case rel => exact ⟨true, j + 1, _, rfl, rfl, (by first | rfl | exact congrArg (Value.int .i64) hwj), ⟨by have := HJ.out; omega⟩, ⟨fun i i0 i1 ie => rfl⟩, F_Nd, F_Q1d, F_V1d, F_V3d, F_D0d, F_M0d, F_Pd, HBd⟩
                · have e5 : (pj == lo) = false := beq_eq_false_iff_ne.mpr hlo
                  have HNE := Aside0.mk hlo
                  clear hlo
                  go_wp2_with fail
                  go_roundg j1
                  case measure => omega
                  case rel =>
                    refine ⟨false, j + 1, _, rfl, rfl, (by first | rfl | exact congrArg (Value.int .i64) hwj), ⟨by have := HJ.out; omega⟩, ⟨fun i i0 i1 ie => ?_⟩, F_Nd, F_Q1d, F_V1d, F_V3d, F_D0d, F_M0d, F_Pd, HBd⟩
                    by_cases q : i = j
                    · exact absurd (HPJ.out.trans (by rw [← q]; exact ie)) HNE.out
                    · exact HBB.out i i0 (by omega) ie
              case true =>
                go_wp2_with fail
                go_roundg j1
                case measure => omega
                case rel => exact ⟨true, j + 1, _, rfl, rfl, (by first | rfl | exact congrArg (Value.int .i64) hwj), ⟨by have := HJ.out; omega⟩, ⟨fun i i0 i1 ie => rfl⟩, F_Nd, F_Q1d, F_V1d, F_V3d, F_D0d, F_M0d, F_Pd, HBd⟩
set_option maxHeartbeats 8000000 in
set_option maxRecDepth 100000 in
theorem laws_FnPrintedAgain.arr (w : World) (A0 : Option Addr) (c0 : Nat) (l0 : List Int) (hr0 : Kd.C (Kd.int .u8) w A0 l0.length l0) (hc0 : l0.length ≤ c0) (hs0 : ∀ x ∈ l0, 0 ≤ x ∧ x ≤ 255) (yy0 : l0.length * 1 ≤ 140737488351232) (A1 : Option Addr) (c1 : Nat) (l1 : List Int) (hr1 : Kd.C (Kd.int .u8) w A1 l1.length l1) (hc1 : l1.length ≤ c1) (hs1 : ∀ x ∈ l1, 0 ≤ x ∧ x ≤ 255) (yy1 : l1.length * 1 ≤ 140737488351232) (hT : Tab10 w) :
    Calls Tryz.prog 3 #[.slice A0 l0.length c0, .slice A1 l1.length c1] w fun e w' => e = .returned (.bool true) ∧ Below w.heap.size w w' := by
  by_cases h0 : l0.length ≤ 4096
  · by_cases h1 : l1.length ≤ 4096
    · exact laws_FnPrintedAgain.walk A0 c0 l0 A1 c1 l1 w hr0 hc0 hs0 hr1 hc1 hs1 h0 h1 hT
    · have HF0 := Aside0.mk (show laws_f6big.f l0 = some false by unfold laws_f6big.f; rw [decide_eq_false (by omega)])
      have HF1 := Aside0.mk (show laws_f6big.f l1 = some true by unfold laws_f6big.f; rw [decide_eq_true (by omega)])
      have HR0 := Aside0.mk hr0
      have HR1 := Aside0.mk hr1
      have HC0 := Aside0.mk hc0
      have HC1 := Aside0.mk hc1
      clear hr0 hr1 hc0 hc1 h0 h1 yy0 yy1 hs0 hs1 hT
      go_enter Tryz.func3, Tryz.ntmps3
      go_wp2_with fail
      refine (laws_f6big.calls _ _ l0 false _ HR0.out HC0.out HF0.out).mono ?_
      rintro e w1 ⟨rfl, hb⟩
      have HB := Aside0.mk hb.below
      clear hb
      go_wp2_with fail
      refine (laws_f6big.calls _ _ l1 true _ (Kd.C_below HR1.out HB.out) HC1.out HF1.out).mono ?_
      rintro e w2 ⟨rfl, hb⟩
      have HB2 := Aside0.mk (below_step HB.out hb.below)
      clear hb HB
      go_wp2_with fail
      go_ret
      exact ⟨rfl, HB2.out⟩
  · have HF0 := Aside0.mk (show laws_f6big.f l0 = some true by unfold laws_f6big.f; rw [decide_eq_true (by omega)])
    have HR0 := Aside0.mk hr0
    have HC0 := Aside0.mk hc0
    clear hr0 hr1 hc0 hc1 h0 yy0 yy1 hs0 hs1 hT
    go_enter Tryz.func3, Tryz.ntmps3
    go_wp2_with fail
    refine (laws_f6big.calls _ _ l0 true _ HR0.out HC0.out HF0.out).mono ?_
    rintro e w1 ⟨rfl, hb⟩
    have HB := Aside0.mk hb.below
    clear hb
    go_wp2_with fail
    go_ret
    exact ⟨rfl, HB.out⟩
end Go.Proofs.YtjonocgmofcieaaGreatDoor.Q
