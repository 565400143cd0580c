-- The law FnBathActs.
import Derived.Test.YtiehbagnebjadaaGreatDoorQx3
import Derived.Test.YtiehbagnebjadaaGreatDoorQx4
import Derived.Test.YtiehbagnebjadaaGreatDoorQx5
import Derived.Test.YtiehbagnebjadaaGreatDoorQx6
import Derived.Test.YtiehbagnebjadaaGreatDoorQx10
import Derived.Test.YtiehbagnebjadaaGreatDoorQx11
import Derived.Test.YtiehbagnebjadaaGreatDoorArrBox
import Derived.Test.YtiehbagnebjadaaGreatDoorArrOpen
import Derived.Test.YtiehbagnebjadaaGreatDoorArrPLA
import Derived.Deep.DeepCutAuto
namespace Go.Proofs.YtiehbagnebjadaaGreatDoor.Q
open Go.RowKit Go.Proofs.YtiehbagnebjadaaGreatDoor.PL Go.Proofs.YtiehbagnebjadaaGreatDoorW.PrintWords Go.Proofs.YtiehbagnebjadaaGreatDoorW.PrintLast Go.Proofs.YtiehbagnebjadaaGreatDoorW.PrintMore
attribute [local go_sem] max2_int min2_int max_two min_two max_three min_three max_four min_four
set_option linter.unusedVariables false
set_option linter.unusedSimpArgs false
theorem region_base {P : Program} {ops : Array Oper} {Q : Exit → Act → World → Prop} {id : Nat} {a : Act} {w : World} {S F : World → Prop} (hm : P.follows .mixedOrders = true) (hS : S w.drew) (hF : F w.drew) (h : ∀ V : World, S V → F V → wpAnyH P .any ops Q S ops.size (Array.replicate ops.size false) a V) : (Code.region id ops true).wp P Q a w := wp_region_held_drew hm hS (fun hs => h _ hs hF)
theorem cell_stays {w W : World} (hb : Below w.heap.size w W) {a : Addr} {v : Value} (h : w.cell? a = some v) : W.cell? a = some v := (hb.cell (World.block_lt_of_cell? _ _ h)).trans h
theorem region_old {P : Program} {ops : Array Oper} {Q : Exit → Act → World → Prop} {id : Nat} {a : Act} {w : World} (hm : P.follows .mixedOrders = true) (h : ∀ V : World, Below w.heap.size w V → wpAnyH P .any ops Q (fun w' => Below w.heap.size w w') ops.size (Array.replicate ops.size false) a V) : (Code.region id ops true).wp P Q a w := wp_region_held_drew hm (below_drew1 (Below.refl _ _)) (fun hs => h _ hs)
set_option maxHeartbeats 8000000 in
set_option maxRecDepth 100000 in
theorem laws_FnBathActs.walk (A0 : Option Addr) (c0 : Nat) (l0 : List Int) (A1 : Option Addr) (c1 : Nat) (l1 : List Int) (w : World) (hr0 : Kd.C (Kd.int .u8) w A0 l0.length l0) (hc0 : l0.length ≤ c0) (hs0 : ∀ x ∈ l0, 0 ≤ x ∧ x ≤ 255) (hr1 : Kd.C (Kd.int .u8) w A1 l1.length l1) (hc1 : l1.length ≤ c1) (hs1 : ∀ x ∈ l1, 0 ≤ x ∧ x ≤ 255) (hlong : laws_a2Long.f l0 l1 = some false) (hT : Tab10 w) :
  Calls Tryz.prog 5 #[.slice A0 l0.length c0, .slice A1 l1.length c1] w fun e w' => e = .returned (.bool true) ∧ Below w.heap.size w w' := by
 obtain ⟨p, k, c, d, v, u, g, e, hD, hV, hv, hp⟩ := L_bathDrawn hs0 (n := 60) (by omega)
 obtain ⟨A, eA, hA5, hAx⟩ := L_a2ActsDrawn hs1 (n := 10) (by omega)
 have hkinds : D_kinds A := fun x hx => (hAx x hx).1
 have htold : D_told A := ⟨⟨fun x hx => by have := hAx x hx; omega, hkinds⟩, by omega⟩
 have h8 : D_actB A := fun x hx => by have := hAx x hx; omega
 obtain ⟨T, eT, eR⟩ := L_actsRead A h8 htold (k := 400) (by omega)
 obtain ⟨b1, b2, b3, two, at_, three, M, f1, f2, f3, f4, f5, f6, htwo, hM, hz, hnz⟩ := L_baFacts hD hV A (by omega) hkinds (n := 200) (by omega)
 have hfull := L_runFull p k c d A v u g
 rw [← htwo] at hfull
 have hD' := hD
 unfold D_dev at hD'
 obtain ⟨x0, ex0, x00, x01⟩ := L_a2At hs1 (i := 0) (n := 20) (by omega) (by omega)
 obtain ⟨x1, ex1, x10, x11⟩ := L_a2At hs1 (i := 1) (n := 46) (by omega) (by omega)
 have hsa := L_a2SameActs A (by omega) (n := 200) (by omega)
 have hsm := L_a2Same M (by omega) (n := 200) (by omega)
 obtain ⟨Rn, hRn⟩ : ∃ q, q = (D_run p k c d A v u g).1 := ⟨_, rfl⟩
 rw [← hRn] at hz hnz hfull
 have hrun : D_run p k c d A v u g = (Rn, two) := by rw [hRn, htwo]
 have e2 : (three == 6) = (two == 0) := by
  by_cases h : two = 0
  ·rw [(hz h).1, h]; rfl
  ·rw [(hnz h).1, beq_eq_false_iff_ne.mpr h]; rfl
 have EB := Aside0.mk (e)
 have HD := Aside0.mk (hD)
 have HV := Aside0.mk (hV)
 have EA := Aside0.mk (eA)
 have HA5 := Aside0.mk (hA5)
 have HAX := Aside0.mk (hAx)
 have ET := Aside0.mk (eT)
 have ER := Aside0.mk (eR)
 have F1 := Aside0.mk (f1)
 have F2 := Aside0.mk (f2)
 have F3 := Aside0.mk (f3)
 have F4 := Aside0.mk (f4)
 have F5 := Aside0.mk (f5)
 have F6 := Aside0.mk (f6)
 have HM := Aside0.mk (hM)
 have HZ := Aside0.mk (hz)
 have HNZ := Aside0.mk (hnz)
 have HFU := Aside0.mk (hfull)
 have HRUN := Aside0.mk (hrun)
 have E0 := Aside0.mk (ex0)
 have E1 := Aside0.mk (ex1)
 have BX := Aside0.mk (show (0 ≤ x0 ∧ x0 < 20) ∧ 0 ≤ x1 ∧ x1 < 46 from ⟨⟨x00, x01⟩, x10, x11⟩)
 have HSA := Aside0.mk (hsa)
 have HSM := Aside0.mk (hsm)
 have HE2 := Aside0.mk (e2)
 have HLO := Aside0.mk (hlong)
 have HR0 := Aside0.mk (hr0)
 have HR1 := Aside0.mk (hr1)
 have HC0 := Aside0.mk (hc0)
 have HC1 := Aside0.mk (hc1)
 have HTB := Aside0.mk (hT)
 have HCD := Aside0.mk (show (-128 ≤ c ∧ c ≤ 127) ∧ -128 ≤ d ∧ d ≤ 127 by omega)
 clear e hD hV eA hA5 hAx hkinds htold h8 eT eR f1 f2 f3 f4 f5 f6 htwo hM hz hnz hfull hD' ex0 ex1 x00 x01 x10 x11 hsa hsm hRn hrun hlong hr0 hr1 hc0 hc1 hs0 hs1 hT hv hp e2
 go_enter Tryz.func5, Tryz.ntmps5
 have HB_0 := Aside0.mk (Below.refl w.heap.size w)
 go_wp2_with fail
 refine (laws_a2Long.calls _ _ l0 _ _ l1 false _ (Kd.C_below HR0.out HB_0.out) HC0.out (Kd.C_below HR1.out HB_0.out) HC1.out HLO.out).mono ?_
 rintro e w1 ⟨rfl, hb⟩
 replace hb := hb.below
 have HB_1 := Aside0.mk (below_step HB_0.out hb)
 clear hb HB_0
 go_wp2_with fail
 refine (spec_A2Bath.calls 60 _ _ l0 p k c d v u g _ (Kd.C_below HR0.out HB_1.out) HC0.out EB.out).mono ?_
 rintro e w2 ⟨rfl, hb⟩
 have HB_2 := Aside0.mk (below_step HB_1.out hb)
 clear hb HB_1
 obtain ⟨bd, bb, hba⟩ := box_two w2 45 47 [.int .i64 p, .int .i64 k, .int .i8 c, .int .i8 d] [.int .i64 v, .int .i64 u, .int .i64 g]
 have HBD := Aside0.mk bd
 have HBB := Aside0.mk bb
 clear bd bb
 have HB_3 := Aside0.mk (below_step HB_2.out hba)
 clear hba HB_2
 go_wp2_with (first | (refine box_load rfl 45 _ rfl w2.heap.size rfl 45 [.int .i64 p, .int .i64 k, .int .i8 c, .int .i8 d] HBD.out _ Tryz.underlying45 rfl (by kernel_rfl) ?_) | (refine box_load rfl 47 _ rfl (w2.heap.size + 1) rfl 47 [.int .i64 v, .int .i64 u, .int .i64 g] HBB.out _ Tryz.underlying47 rfl (by kernel_rfl) ?_))
 refine (spec_A2Acts.calls 10 _ _ l1 A _ (Kd.C_below HR1.out HB_3.out) HC1.out EA.out).mono ?_
 rintro e w4 ⟨v4, rfl, ho, hb⟩
 obtain ⟨A_A, c_A, e_A⟩ := Kd.R_slice ho
 subst e_A
 have SA := Aside0.mk (Kd.R_reads' ho).2.2
 have CA := Aside0.mk (Kd.R_reads' ho).2.1
 clear ho
 have HBD_4 := Aside0.mk (HBD.out.below hb)
 have HBB_4 := Aside0.mk (HBB.out.below hb)
 have HB_4 := Aside0.mk (below_step HB_3.out hb)
 clear hb HBD HBB HB_3
 go_wp2_with (first | (refine box_load rfl 45 _ rfl w2.heap.size rfl 45 [.int .i64 p, .int .i64 k, .int .i8 c, .int .i8 d] HBD_4.out _ Tryz.underlying45 rfl (by kernel_rfl) ?_) | (refine box_load rfl 47 _ rfl (w2.heap.size + 1) rfl 47 [.int .i64 v, .int .i64 u, .int .i64 g] HBB_4.out _ Tryz.underlying47 rfl (by kernel_rfl) ?_))
 refine (impl_ActsText.calls 400 _ _ A T _ SA.out CA.out ET.out (HTB.out.below HB_4.out)).mono ?_
 rintro e w5 ⟨rfl, hb⟩
 have HBD_5 := Aside0.mk (HBD_4.out.below hb)
 have HBB_5 := Aside0.mk (HBB_4.out.below hb)
 have SA_5 := Aside0.mk (Kd.C_below SA.out hb)
 have HB_5 := Aside0.mk (below_step HB_4.out hb)
 clear hb HBD_4 HBB_4 SA HB_4
 go_wp2_with (first | (refine box_load rfl 45 _ rfl w2.heap.size rfl 45 [.int .i64 p, .int .i64 k, .int .i8 c, .int .i8 d] HBD_5.out _ Tryz.underlying45 rfl (by kernel_rfl) ?_) | (refine box_load rfl 47 _ rfl (w2.heap.size + 1) rfl 47 [.int .i64 v, .int .i64 u, .int .i64 g] HBB_5.out _ Tryz.underlying47 rfl (by kernel_rfl) ?_))
 refine (impl_ReadActs.calls T A 0 _ ER.out (HTB.out.below HB_5.out)).mono ?_
 rintro e w6 ⟨v6, rfl, ho, hb⟩
 obtain ⟨A_K, c_K, e_K⟩ := Kd.R_slice ho
 subst e_K
 have SK := Aside0.mk (Kd.R_reads' ho).2.2
 have CK := Aside0.mk (Kd.R_reads' ho).2.1
 clear ho
 have HBD_6 := Aside0.mk (HBD_5.out.below hb)
 have HBB_6 := Aside0.mk (HBB_5.out.below hb)
 have SA_6 := Aside0.mk (Kd.C_below SA_5.out hb)
 have HB_6 := Aside0.mk (below_step HB_5.out hb)
 clear hb HBD_5 HBB_5 SA_5 HB_5
 go_wp2_with (first | (refine box_load rfl 45 _ rfl w2.heap.size rfl 45 [.int .i64 p, .int .i64 k, .int .i8 c, .int .i8 d] HBD_6.out _ Tryz.underlying45 rfl (by kernel_rfl) ?_) | (refine box_load rfl 47 _ rfl (w2.heap.size + 1) rfl 47 [.int .i64 v, .int .i64 u, .int .i64 g] HBB_6.out _ Tryz.underlying47 rfl (by kernel_rfl) ?_))
 refine (impl_DoActs.calls 200 p k c d v u g _ _ A b1 b2 b3 two _ SA_6.out CA.out F2.out).mono ?_
 rintro e w7 ⟨rfl, hb⟩
 have HBD_7 := Aside0.mk (HBD_6.out.below hb)
 have HBB_7 := Aside0.mk (HBB_6.out.below hb)
 have SA_7 := Aside0.mk (Kd.C_below SA_6.out hb)
 have SK_7 := Aside0.mk (Kd.C_below SK.out hb)
 have HB_7 := Aside0.mk (below_step HB_6.out hb)
 clear hb HBD_6 HBB_6 SA_6 SK HB_6
 obtain ⟨bx, hba⟩ := box_one w7 47 [.int .i64 b1, .int .i64 b2, .int .i64 b3]
 have HE := Aside0.mk bx
 clear bx
 have HBD_8 := Aside0.mk (HBD_7.out.below hba)
 have HBB_8 := Aside0.mk (HBB_7.out.below hba)
 have SA_8 := Aside0.mk (Kd.C_below SA_7.out hba)
 have SK_8 := Aside0.mk (Kd.C_below SK_7.out hba)
 have HB_8 := Aside0.mk (below_step HB_7.out hba)
 clear hba HBD_7 HBB_7 SA_7 SK_7 HB_7
 go_wp2_with (first | (refine box_load rfl 45 _ rfl w2.heap.size rfl 45 [.int .i64 p, .int .i64 k, .int .i8 c, .int .i8 d] HBD_8.out _ Tryz.underlying45 rfl (by kernel_rfl) ?_) | (refine box_load rfl 47 _ rfl (w2.heap.size + 1) rfl 47 [.int .i64 v, .int .i64 u, .int .i64 g] HBB_8.out _ Tryz.underlying47 rfl (by kernel_rfl) ?_) | (refine box_load rfl 47 _ rfl w7.heap.size rfl 47 [.int .i64 b1, .int .i64 b2, .int .i64 b3] HE.out _ Tryz.underlying47 rfl (by kernel_rfl) ?_))
 refine (spec_DoActs.calls 200 p k c d v u g _ _ A b1 b2 b3 two _ SA_8.out CA.out F1.out).mono ?_
 rintro e w9 ⟨rfl, hb⟩
 have HBD_9 := Aside0.mk (HBD_8.out.below hb)
 have HBB_9 := Aside0.mk (HBB_8.out.below hb)
 have HE_9 := Aside0.mk (HE.out.below hb)
 have SA_9 := Aside0.mk (Kd.C_below SA_8.out hb)
 have SK_9 := Aside0.mk (Kd.C_below SK_8.out hb)
 have HB_9 := Aside0.mk (below_step HB_8.out hb)
 clear hb HBD_8 HBB_8 HE SA_8 SK_8 HB_8
 obtain ⟨bx, hba⟩ := box_one w9 47 [.int .i64 b1, .int .i64 b2, .int .i64 b3]
 have HU := Aside0.mk bx
 clear bx
 have HBD_10 := Aside0.mk (HBD_9.out.below hba)
 have HBB_10 := Aside0.mk (HBB_9.out.below hba)
 have HE_10 := Aside0.mk (HE_9.out.below hba)
 have SA_10 := Aside0.mk (Kd.C_below SA_9.out hba)
 have SK_10 := Aside0.mk (Kd.C_below SK_9.out hba)
 have HB_10 := Aside0.mk (below_step HB_9.out hba)
 clear hba HBD_9 HBB_9 HE_9 SA_9 SK_9 HB_9
 go_wp2_with (first | (refine box_load rfl 45 _ rfl w2.heap.size rfl 45 [.int .i64 p, .int .i64 k, .int .i8 c, .int .i8 d] HBD_10.out _ Tryz.underlying45 rfl (by kernel_rfl) ?_) | (refine box_load rfl 47 _ rfl (w2.heap.size + 1) rfl 47 [.int .i64 v, .int .i64 u, .int .i64 g] HBB_10.out _ Tryz.underlying47 rfl (by kernel_rfl) ?_) | (refine box_load rfl 47 _ rfl w7.heap.size rfl 47 [.int .i64 b1, .int .i64 b2, .int .i64 b3] HE_10.out _ Tryz.underlying47 rfl (by kernel_rfl) ?_) | (refine box_load rfl 47 _ rfl w9.heap.size rfl 47 [.int .i64 b1, .int .i64 b2, .int .i64 b3] HU.out _ Tryz.underlying47 rfl (by kernel_rfl) ?_))
 refine (impl_FirstFailure.calls 200 p k c d v u g _ _ A at_ three _ SA_10.out CA.out F4.out).mono ?_
 rintro e w11 ⟨rfl, hb⟩
 have HBD_11 := Aside0.mk (HBD_10.out.below hb)
 have HBB_11 := Aside0.mk (HBB_10.out.below hb)
 have HE_11 := Aside0.mk (HE_10.out.below hb)
 have HU_11 := Aside0.mk (HU.out.below hb)
 have SA_11 := Aside0.mk (Kd.C_below SA_10.out hb)
 have SK_11 := Aside0.mk (Kd.C_below SK_10.out hb)
 have HB_11 := Aside0.mk (below_step HB_10.out hb)
 clear hb HBD_10 HBB_10 HE_10 HU SA_10 SK_10 HB_10
 go_wp2_with (first | (refine box_load rfl 45 _ rfl w2.heap.size rfl 45 [.int .i64 p, .int .i64 k, .int .i8 c, .int .i8 d] HBD_11.out _ Tryz.underlying45 rfl (by kernel_rfl) ?_) | (refine box_load rfl 47 _ rfl (w2.heap.size + 1) rfl 47 [.int .i64 v, .int .i64 u, .int .i64 g] HBB_11.out _ Tryz.underlying47 rfl (by kernel_rfl) ?_) | (refine box_load rfl 47 _ rfl w7.heap.size rfl 47 [.int .i64 b1, .int .i64 b2, .int .i64 b3] HE_11.out _ Tryz.underlying47 rfl (by kernel_rfl) ?_) | (refine box_load rfl 47 _ rfl w9.heap.size rfl 47 [.int .i64 b1, .int .i64 b2, .int .i64 b3] HU_11.out _ Tryz.underlying47 rfl (by kernel_rfl) ?_))
 refine (spec_FirstFailure.calls 200 p k c d v u g _ _ A at_ three _ SA_11.out CA.out F3.out).mono ?_
 rintro e w12 ⟨rfl, hb⟩
 have HBD_12 := Aside0.mk (HBD_11.out.below hb)
 have HBB_12 := Aside0.mk (HBB_11.out.below hb)
 have HE_12 := Aside0.mk (HE_11.out.below hb)
 have HU_12 := Aside0.mk (HU_11.out.below hb)
 have SA_12 := Aside0.mk (Kd.C_below SA_11.out hb)
 have SK_12 := Aside0.mk (Kd.C_below SK_11.out hb)
 have HB_12 := Aside0.mk (below_step HB_11.out hb)
 clear hb HBD_11 HBB_11 HE_11 HU_11 SA_11 SK_11 HB_11
 go_wp2_with (first | (refine box_load rfl 45 _ rfl w2.heap.size rfl 45 [.int .i64 p, .int .i64 k, .int .i8 c, .int .i8 d] HBD_12.out _ Tryz.underlying45 rfl (by kernel_rfl) ?_) | (refine box_load rfl 47 _ rfl (w2.heap.size + 1) rfl 47 [.int .i64 v, .int .i64 u, .int .i64 g] HBB_12.out _ Tryz.underlying47 rfl (by kernel_rfl) ?_) | (refine box_load rfl 47 _ rfl w7.heap.size rfl 47 [.int .i64 b1, .int .i64 b2, .int .i64 b3] HE_12.out _ Tryz.underlying47 rfl (by kernel_rfl) ?_) | (refine box_load rfl 47 _ rfl w9.heap.size rfl 47 [.int .i64 b1, .int .i64 b2, .int .i64 b3] HU_12.out _ Tryz.underlying47 rfl (by kernel_rfl) ?_))
 refine (impl_StrengthsIn.calls 200 p k c d v u g _ _ A M two _ SA_12.out CA.out F6.out).mono ?_
 rintro e w13 ⟨v13, rfl, ho, hb⟩
 obtain ⟨A_I, c_I, e_I⟩ := Kd.R_slice ho
 subst e_I
 have SI := Aside0.mk (Kd.R_reads' ho).2.2
 have CI := Aside0.mk (Kd.R_reads' ho).2.1
 clear ho
 have HBD_13 := Aside0.mk (HBD_12.out.below hb)
 have HBB_13 := Aside0.mk (HBB_12.out.below hb)
 have HE_13 := Aside0.mk (HE_12.out.below hb)
 have HU_13 := Aside0.mk (HU_12.out.below hb)
 have SA_13 := Aside0.mk (Kd.C_below SA_12.out hb)
 have SK_13 := Aside0.mk (Kd.C_below SK_12.out hb)
 have HB_13 := Aside0.mk (below_step HB_12.out hb)
 clear hb HBD_12 HBB_12 HE_12 HU_12 SA_12 SK_12 HB_12
 go_wp2_with (first | (refine box_load rfl 45 _ rfl w2.heap.size rfl 45 [.int .i64 p, .int .i64 k, .int .i8 c, .int .i8 d] HBD_13.out _ Tryz.underlying45 rfl (by kernel_rfl) ?_) | (refine box_load rfl 47 _ rfl (w2.heap.size + 1) rfl 47 [.int .i64 v, .int .i64 u, .int .i64 g] HBB_13.out _ Tryz.underlying47 rfl (by kernel_rfl) ?_) | (refine box_load rfl 47 _ rfl w7.heap.size rfl 47 [.int .i64 b1, .int .i64 b2, .int .i64 b3] HE_13.out _ Tryz.underlying47 rfl (by kernel_rfl) ?_) | (refine box_load rfl 47 _ rfl w9.heap.size rfl 47 [.int .i64 b1, .int .i64 b2, .int .i64 b3] HU_13.out _ Tryz.underlying47 rfl (by kernel_rfl) ?_))
 refine (spec_StrengthsIn.calls 200 p k c d v u g _ _ A M two _ SA_13.out CA.out F5.out).mono ?_
 rintro e w14 ⟨v14, rfl, ho, hb⟩
 obtain ⟨A_M, c_M, e_M⟩ := Kd.R_slice ho
 subst e_M
 have SM := Aside0.mk (Kd.R_reads' ho).2.2
 have CM := Aside0.mk (Kd.R_reads' ho).2.1
 clear ho
 have HBD_14 := Aside0.mk (HBD_13.out.below hb)
 have HBB_14 := Aside0.mk (HBB_13.out.below hb)
 have HE_14 := Aside0.mk (HE_13.out.below hb)
 have HU_14 := Aside0.mk (HU_13.out.below hb)
 have SA_14 := Aside0.mk (Kd.C_below SA_13.out hb)
 have SK_14 := Aside0.mk (Kd.C_below SK_13.out hb)
 have SI_14 := Aside0.mk (Kd.C_below SI.out hb)
 have HB_14 := Aside0.mk (below_step HB_13.out hb)
 clear hb HBD_13 HBB_13 HE_13 HU_13 SA_13 SK_13 SI HB_13
 go_upto_region 12 with fail
 go_cut [144] (fun v1 wc => v1 = .bool false ∧ Aside0 (BoxAt wc w2.heap.size 45 [.int .i64 p, .int .i64 k, .int .i8 c, .int .i8 d]) ∧ Aside0 (BoxAt wc (w2.heap.size + 1) 47 [.int .i64 v, .int .i64 u, .int .i64 g]) ∧ Aside0 (BoxAt wc w7.heap.size 47 [.int .i64 b1, .int .i64 b2, .int .i64 b3]) ∧ Aside0 (BoxAt wc w9.heap.size 47 [.int .i64 b1, .int .i64 b2, .int .i64 b3]) ∧ Aside0 (Kd.C k65 wc A_A A.length A) ∧ Aside0 (Kd.C k65 wc A_K A.length A) ∧ Aside0 (Kd.C (Kd.int .i64) wc A_I M.length M) ∧ Aside0 (Kd.C (Kd.int .i64) wc A_M M.length M) ∧ Aside0 (Below w.heap.size w wc))
 case first =>
  as_aux_lemma =>
   have e2 := HE2.out
   go_wp2_with fail
   refine (spec_A2SameActs.calls 200 _ _ A _ _ A true _ SK_14.out CK.out SA_14.out CA.out HSA.out).mono ?_
   rintro e w15 ⟨rfl, hb⟩
   replace hb := hb.below
   have HBD_15 := Aside0.mk (HBD_14.out.below hb)
   have HBB_15 := Aside0.mk (HBB_14.out.below hb)
   have HE_15 := Aside0.mk (HE_14.out.below hb)
   have HU_15 := Aside0.mk (HU_14.out.below hb)
   have SA_15 := Aside0.mk (Kd.C_below SA_14.out hb)
   have SK_15 := Aside0.mk (Kd.C_below SK_14.out hb)
   have SI_15 := Aside0.mk (Kd.C_below SI_14.out hb)
   have SM_15 := Aside0.mk (Kd.C_below SM.out hb)
   have HB_15 := Aside0.mk (below_step HB_14.out hb)
   clear hb HBD_14 HBB_14 HE_14 HU_14 SA_14 SK_14 SI_14 SM HB_14
   go_wp2_with (first | (refine box_loadG (by rfl) 45 _ rfl w2.heap.size rfl 45 [.int .i64 p, .int .i64 k, .int .i8 c, .int .i8 d] HBD_15.out _ Tryz.underlying45 rfl (by kernel_rfl) ?_) | (refine box_load rfl 45 _ rfl w2.heap.size rfl 45 [.int .i64 p, .int .i64 k, .int .i8 c, .int .i8 d] HBD_15.out _ Tryz.underlying45 rfl (by kernel_rfl) ?_) | (refine box_loadG (by rfl) 47 _ rfl (w2.heap.size + 1) rfl 47 [.int .i64 v, .int .i64 u, .int .i64 g] HBB_15.out _ Tryz.underlying47 rfl (by kernel_rfl) ?_) | (refine box_load rfl 47 _ rfl (w2.heap.size + 1) rfl 47 [.int .i64 v, .int .i64 u, .int .i64 g] HBB_15.out _ Tryz.underlying47 rfl (by kernel_rfl) ?_) | (refine box_loadG (by rfl) 47 _ rfl w7.heap.size rfl 47 [.int .i64 b1, .int .i64 b2, .int .i64 b3] HE_15.out _ Tryz.underlying47 rfl (by kernel_rfl) ?_) | (refine box_load rfl 47 _ rfl w7.heap.size rfl 47 [.int .i64 b1, .int .i64 b2, .int .i64 b3] HE_15.out _ Tryz.underlying47 rfl (by kernel_rfl) ?_) | (refine box_loadG (by rfl) 47 _ rfl w9.heap.size rfl 47 [.int .i64 b1, .int .i64 b2, .int .i64 b3] HU_15.out _ Tryz.underlying47 rfl (by kernel_rfl) ?_) | (refine box_load rfl 47 _ rfl w9.heap.size rfl 47 [.int .i64 b1, .int .i64 b2, .int .i64 b3] HU_15.out _ Tryz.underlying47 rfl (by kernel_rfl) ?_))
   refine (spec_A2Same.calls 200 _ _ M _ _ M true _ SI_15.out CI.out SM_15.out CM.out HSM.out).mono ?_
   rintro e w16 ⟨rfl, hb⟩
   replace hb := hb.below
   have HBD_16 := Aside0.mk (HBD_15.out.below hb)
   have HBB_16 := Aside0.mk (HBB_15.out.below hb)
   have HE_16 := Aside0.mk (HE_15.out.below hb)
   have HU_16 := Aside0.mk (HU_15.out.below hb)
   have SA_16 := Aside0.mk (Kd.C_below SA_15.out hb)
   have SK_16 := Aside0.mk (Kd.C_below SK_15.out hb)
   have SI_16 := Aside0.mk (Kd.C_below SI_15.out hb)
   have SM_16 := Aside0.mk (Kd.C_below SM_15.out hb)
   have HB_16 := Aside0.mk (below_step HB_15.out hb)
   clear hb HBD_15 HBB_15 HE_15 HU_15 SA_15 SK_15 SI_15 SM_15 HB_15
   go_wp2_with fail
   go_meet
   case rel => exact ⟨rfl, HBD_16, HBB_16, HE_16, HU_16, SA_16, SK_16, SI_16, SM_16, HB_16⟩
 case rest =>
  as_aux_lemma =>
   clear HBD_14 HBB_14 HE_14 HU_14 SA_14 SK_14 SI_14 SM HB_14
   obtain ⟨rfl, HBD_17, HBB_17, HE_17, HU_17, SA_17, SK_17, SI_17, SM_17, HB_17⟩ := hcut
   clear SK_17 SI_17 HE_17
   clear CK CI
   obtain ⟨bx, hba⟩ := box_one wc 47 [.int .i64 v, .int .i64 u, .int .i64 g]
   have HNOW := Aside0.mk bx
   have HBN := Aside0.mk hba
   clear bx hba
   go_wp2_with (first | (refine box_loadG (by rfl) 45 _ rfl w2.heap.size rfl 45 [.int .i64 p, .int .i64 k, .int .i8 c, .int .i8 d] HBD_17.out _ Tryz.underlying45 rfl (by kernel_rfl) ?_) | (refine box_load rfl 45 _ rfl w2.heap.size rfl 45 [.int .i64 p, .int .i64 k, .int .i8 c, .int .i8 d] HBD_17.out _ Tryz.underlying45 rfl (by kernel_rfl) ?_) | (refine box_loadG (by rfl) 47 _ rfl (w2.heap.size + 1) rfl 47 [.int .i64 v, .int .i64 u, .int .i64 g] HBB_17.out _ Tryz.underlying47 rfl (by kernel_rfl) ?_) | (refine box_load rfl 47 _ rfl (w2.heap.size + 1) rfl 47 [.int .i64 v, .int .i64 u, .int .i64 g] HBB_17.out _ Tryz.underlying47 rfl (by kernel_rfl) ?_) | (refine box_loadG (by rfl) 47 _ rfl w9.heap.size rfl 47 [.int .i64 b1, .int .i64 b2, .int .i64 b3] HU_17.out _ Tryz.underlying47 rfl (by kernel_rfl) ?_) | (refine box_load rfl 47 _ rfl w9.heap.size rfl 47 [.int .i64 b1, .int .i64 b2, .int .i64 b3] HU_17.out _ Tryz.underlying47 rfl (by kernel_rfl) ?_))
   go_loopg [23] A.length (fun kq v23 w' => ∃ (i v_ u_ g_ : Int) (R : List S47) (W : World), W = w' ∧ v23 = .int .i64 i ∧ Aside0 (0 ≤ i ∧ i + kq = A.length) ∧ Aside0 (D_run p k c d (A.drop i.toNat) v_ u_ g_ = (R, two)) ∧ Aside0 (D_vol p v_ u_ g_) ∧ Aside0 (Rn.drop i.toNat = R ∧ i ≤ (Rn.length : Int)) ∧ Aside0 (D_lastB v_ u_ g_ R = D_lastB v u g Rn) ∧ Aside0 (BoxAt W wc.heap.size 47 [.int .i64 v_, .int .i64 u_, .int .i64 g_]) ∧ Aside0 (Below wc.heap.size wc W))
   case atStart => exact ⟨0, v, u, g, Rn, _, rfl, rfl, ⟨by omega⟩, HRUN, HV, ⟨rfl, by omega⟩, ⟨rfl⟩, HNOW, HBN⟩
   case round =>
    as_aux_lemma =>
     clear HNOW HBN
     obtain ⟨i, v_, u_, g_, R, W, rfl, rfl, HI, HRI, HVI, HRN, HLB, HNOW, HBN⟩ := hrel
     cases gk with
     | succ k1 =>
      have h0 : 0 ≤ i := HI.out.1
      have hi : i < (A.length : Int) := by have := HI.out.2; omega
      have hdec : decide (i < (A.length : Int)) = true := decide_eq_true hi
      have hwi : wrap64 (i + 1) = i + 1 := by have := HA5.out; unfold wrap64; omega
      obtain ⟨n1, n2, n3, c2, hdo, hne, heq⟩ := L_baRound HD.out HVI.out A i h0 hi R two HRI.out
      obtain ⟨ad, rfl, hc0_, hc1_⟩ := at_T65 SA_17.out i h0 hi
      have hxm : rd_T65 A i ∈ A := by obtain ⟨hlt, ea⟩ := L_rdAS (l := A) (i := i) h0 hi; rw [ea]; exact List.getElem_mem hlt
      have hxb := HAX.out _ hxm
      obtain ⟨⟨kd, nn⟩, hx⟩ : ∃ q : S65, q = rd_T65 A i := ⟨_, rfl⟩
      rw [← hx] at hdo hc0_ hc1_ hxb
      have HK := Aside0.mk hc0_
      have HN := Aside0.mk hc1_
      have HDO := Aside0.mk hdo
      have HNE := Aside0.mk hne
      have HEQ := Aside0.mk heq
      have HXB := Aside0.mk hxb
      have p0 := eq_true h0
      have pA := eq_true hi
      clear hdo hne heq hc0_ hc1_ hxm hxb hx h0 hi HRI HVI
      have hal := (Below.refl W.heap.size W).alloc (Nat.le_refl _) (.cells ([.int .i64 v_, .int .i64 u_, .int .i64 g_] : List Value).toArray 47)
      have HX := Aside0.mk (BoxAt.new W 47 [.int .i64 v_, .int .i64 u_, .int .i64 g_])
      have HAL := Aside0.mk hal
      have hck := cell_stays (below_step HBN.out hal) HK.out
      clear hal
      rcases (show kd = 0 ∨ kd = 1 ∨ kd = 2 by have h_ : 0 ≤ kd ∧ kd ≤ 2 := HXB.out.1; omega) with hk | hk | hk
      ·subst hk
       as_aux_lemma =>
        have hf : impl_DevelopSheet.f 60 p k c d v_ u_ g_ nn = some (n1, n2, n3, c2) := by
         have h_ := HDO.out
         unfold D_do1 at h_
         simp only [if_true, eq_self] at h_
         rw [L_implDevSheet HCD.out.1 HCD.out.2 (by omega), ← h_]
        have HF := Aside0.mk hf
        clear hf
        go_upto_region 23 with (first | (refine box_load rfl 47 _ rfl wc.heap.size rfl 47 [.int .i64 v_, .int .i64 u_, .int .i64 g_] HNOW.out _ Tryz.underlying47 rfl (by kernel_rfl) ?_))
        have HBDW := Aside0.mk (HBD_17.out.below HBN.out)
        have HNW := Aside0.mk (cell_stays HBN.out HN.out)
        refine region_base (S := fun w' => Below W.heap.size W w') (F := fun w' => BoxAt w' W.heap.size 47 [.int .i64 v_, .int .i64 u_, .int .i64 g_]) (by kernel_rfl) (below_drew1 HAL.out) HX.out.drew (fun V0 hHeld hF => ?_)
        have NW := Aside0.mk hF
        clear hF
        refine wpAnyH_take (i := 0) (v := .agg ([.int .i64 p, .int .i64 k, .int .i8 c, .int .i8 d] : List Value).toArray) rfl (by kernel_rfl) (by kernel_rfl) (by kernel_rfl) (fun _ _ _ h => h) (yieldsIf_load_mid (by rfl) _ _ rfl _ _ rfl _ _ (fun w' h => BoxAt.range (HBDW.out.below h)) Tryz.underlying45 rfl (by kernel_rfl)) (by assumption) ?_
        try simp only [List.getElem_toArray, List.getElem_cons_succ, List.getElem_cons_zero, Act.put, List.setIfInBounds_toArray, List.set_cons_zero, List.set_cons_succ]
        refine wpAnyH_take (i := 1) (v := .agg ([.int .i64 v_, .int .i64 u_, .int .i64 g_] : List Value).toArray) rfl (by kernel_rfl) (by kernel_rfl) (by kernel_rfl) (fun _ _ _ h => h) (yieldsIf_load_mid (by rfl) _ _ rfl _ _ rfl _ _ (fun w' h => BoxAt.range (HNOW.out.below h)) Tryz.underlying47 rfl (by kernel_rfl)) (by assumption) ?_
        try simp only [List.getElem_toArray, List.getElem_cons_succ, List.getElem_cons_zero, Act.put, List.setIfInBounds_toArray, List.set_cons_zero, List.set_cons_succ]
        refine wpAnyH_take (i := 2) (v := ?_) rfl (by kernel_rfl) (by kernel_rfl) (by kernel_rfl) (fun _ _ _ h => h) (Or.inl ⟨by rfl, ?_⟩) (by assumption) ?_
        rotate_left
        ·intro w hSw
         go_simp
         with_reducible rfl
        try simp only [List.getElem_toArray, List.getElem_cons_succ, List.getElem_cons_zero, Act.put, List.setIfInBounds_toArray, List.set_cons_zero, List.set_cons_succ]
        refine wpAnyH_take (i := 3) (v := ?_) rfl (by kernel_rfl) (by kernel_rfl) (by kernel_rfl) (fun _ _ _ h => h) (Or.inl ⟨by rfl, ?_⟩) (by assumption) ?_
        rotate_left
        ·intro w hSw
         go_simp
         with_reducible rfl
        try simp only [List.getElem_toArray, List.getElem_cons_succ, List.getElem_cons_zero, Act.put, List.setIfInBounds_toArray, List.set_cons_zero, List.set_cons_succ]
        refine wpAnyH_take (i := 4) (v := ?_) rfl (by kernel_rfl) (by kernel_rfl) (by kernel_rfl) (fun _ _ _ h => h) (Or.inl ⟨by rfl, ?_⟩) (by assumption) ?_
        rotate_left
        ·intro w hSw
         go_simp
         with_reducible rfl
        try simp only [List.getElem_toArray, List.getElem_cons_succ, List.getElem_cons_zero, Act.put, List.setIfInBounds_toArray, List.set_cons_zero, List.set_cons_succ]
        refine wpAnyH_take (i := 5) (v := ?_) rfl (by kernel_rfl) (by kernel_rfl) (by kernel_rfl) (fun _ _ _ h => h) (Or.inl ⟨by rfl, ?_⟩) (by assumption) ?_
        rotate_left
        ·intro w hSw
         go_simp
         with_reducible rfl
        try simp only [List.getElem_toArray, List.getElem_cons_succ, List.getElem_cons_zero, Act.put, List.setIfInBounds_toArray, List.set_cons_zero, List.set_cons_succ]
        refine wpAnyH_take (i := 6) (v := ?_) rfl (by kernel_rfl) (by kernel_rfl) (by kernel_rfl) (fun _ _ _ h => h) (Or.inl ⟨by rfl, ?_⟩) (by assumption) ?_
        rotate_left
        ·intro w' hSw
         have hcell0 := cell_stays hSw HNW.out
         go_simp
         with_reducible rfl
        try simp only [List.getElem_toArray, List.getElem_cons_succ, List.getElem_cons_zero, Act.put, List.setIfInBounds_toArray, List.set_cons_zero, List.set_cons_succ]
        have HGN := Aside0.mk (show W.heap.size ≤ W.heap.size from Nat.le_refl _)
        refine wpAnyH_ready (rs := [7]) (by kernel_rfl) (by simp) ?_
        refine AllReadyH.cons rfl (fun K hK => ?_) AllReadyH.nil
        have q := hHeld
        clear hHeld
        go_simp
        refine (impl_DevelopSheet.calls 60 p k c d v_ u_ g_ nn n1 n2 n3 c2 _ HF.out).mono ?_
        rintro e V1 ⟨rfl, hb⟩
        go_wp2_with fail
        have NW' := Aside0.mk (NW.out.below hb)
        clear NW
        refine hK.out _ _ (below_step q hb) (fun hHeld => ?_)
        clear hK K hb q
        try simp only [List.getElem_toArray, List.getElem_cons_succ, List.getElem_cons_zero, Act.put, List.setIfInBounds_toArray, List.set_cons_zero, List.set_cons_succ]
        refine wpAnyH_take (i := 8) (v := ?_) rfl (by kernel_rfl) (by kernel_rfl) (by kernel_rfl) (fun _ _ _ h => h) (Or.inl ⟨by rfl, ?_⟩) (by assumption) ?_
        rotate_left
        ·intro w hSw
         go_simp
         with_reducible rfl
        try simp only [List.getElem_toArray, List.getElem_cons_succ, List.getElem_cons_zero, Act.put, List.setIfInBounds_toArray, List.set_cons_zero, List.set_cons_succ]
        refine wpAnyH_take (i := 9) (v := ?_) rfl (by kernel_rfl) (by kernel_rfl) (by kernel_rfl) (fun _ _ _ h => h) (Or.inl ⟨by rfl, ?_⟩) (by assumption) ?_
        rotate_left
        ·intro w hSw
         go_simp
         with_reducible rfl
        try simp only [List.getElem_toArray, List.getElem_cons_succ, List.getElem_cons_zero, Act.put, List.setIfInBounds_toArray, List.set_cons_zero, List.set_cons_succ]
        refine wpAnyH_take (i := 10) (v := ?_) rfl (by kernel_rfl) (by kernel_rfl) (by kernel_rfl) (fun _ _ _ h => h) (Or.inl ⟨by rfl, ?_⟩) (by assumption) ?_
        rotate_left
        ·intro w hSw
         go_simp
         with_reducible rfl
        try simp only [List.getElem_toArray, List.getElem_cons_succ, List.getElem_cons_zero, Act.put, List.setIfInBounds_toArray, List.set_cons_zero, List.set_cons_succ]
        refine wpAnyH_ready (rs := [11]) (by kernel_rfl) (by simp) ?_
        refine AllReadyH.cons rfl (fun K hK => ?_) AllReadyH.nil
        have q := hHeld
        clear hHeld
        rw [if_pos (by rfl)]
        refine box_wp_store 47 _ _ rfl W.heap.size [.int .i64 n1, .int .i64 n2, .int .i64 n3] rfl rfl 47 [.int .i64 v_, .int .i64 u_, .int .i64 g_] NW'.out (by kernel_rfl) rfl (by rfl) ?_
        have NS := Aside0.mk (NW'.out.row [.int .i64 n1, .int .i64 n2, .int .i64 n3])
        refine hK.out _ _ (below_row q HGN.out _) (fun hHeld => ?_)
        clear hK K q
        try simp only [List.getElem_toArray, List.getElem_cons_succ, List.getElem_cons_zero, Act.put, List.setIfInBounds_toArray, List.set_cons_zero, List.set_cons_succ]
        refine wpAnyH_take (i := 12) (v := ?_) rfl (by kernel_rfl) (by kernel_rfl) (by kernel_rfl) (fun _ _ _ h => h) (Or.inl ⟨by rfl, ?_⟩) (by assumption) ?_
        rotate_left
        ·intro w hSw
         go_simp
         with_reducible rfl
        try simp only [List.getElem_toArray, List.getElem_cons_succ, List.getElem_cons_zero, Act.put, List.setIfInBounds_toArray, List.set_cons_zero, List.set_cons_succ]
        refine wpAnyH_done (by kernel_rfl) ?_ _
        have QB := Aside0.mk hHeld
        clear hHeld
        have HNOW' := Aside0.mk (HNOW.out.below QB.out)
        have HBN' := Aside0.mk (below_step HBN.out QB.out)
        have HDV := Aside0.mk (HBDW.out.below QB.out)
        clear HNOW
        by_cases hc2 : c2 = 0
        ·subst hc2
         obtain ⟨R', hr1, hr2, hr3, hr4, hr5⟩ := HEQ.out rfl
         have HV2 := Aside0.mk hr3
         have HR2 := Aside0.mk hr2
         have HL2 := Aside0.mk (hr4.trans HLB.out)
         have HS2 := Aside0.mk hr5
         have hrn2 : Rn.drop (i + 1).toNat = R' ∧ i + 1 ≤ (Rn.length : Int) := L_dropStep HI.out.1 (HRN.out.1.trans hr1)
         have HRN2 := Aside0.mk hrn2
         have hst : two = 0 → (M.length : Int) = (A.length : Int) + 1 ∧ rd M (i + 1) = D_strength p k n1 n2 n3 := fun h => by
          obtain ⟨_, _, hm⟩ := HZ.out h
          have hf := HFU.out h
          rw [hm]
          refine ⟨by simp [hf], ?_⟩
          rw [L_rdMapAt (D_strength p k v u g) (fun x => D_strength p k x.f0 x.f1 x.f2) HI.out.1 (HRN.out.1.trans hr1)]
         have HST := Aside0.mk hst
         clear hr1 hr2 hr3 hr4 hr5 hrn2 hst
         have hgl := HNOW'.out.lt
         by_cases h2 : two = 0
         ·have h2b : (two == 0) = true := beq_iff_eq.mpr h2
          obtain ⟨hml, hmr⟩ := HST.out h2
          have hwa : wrap64 ((A.length : Int) + 1) = (A.length : Int) + 1 := by have := HA5.out; unfold wrap64; omega
          obtain ⟨adM, eM, hcM⟩ := Kd.at_int SM_17.out (i + 1) (by have := HI.out.1; omega) (by have := HI.out.2; omega)
          rw [hmr] at hcM
          have p1 : (0 ≤ i + 1) = True := eq_true (by have := HI.out.1; omega)
          have p2 : (i + 1 < (M.length : Int)) = True := eq_true (by have := HI.out.2; omega)
          have HCM := Aside0.mk hcM
          clear hmr hcM h2
          go_wp2_with (first | (refine box_load rfl 45 _ rfl w2.heap.size rfl 45 [.int .i64 p, .int .i64 k, .int .i8 c, .int .i8 d] HDV.out _ Tryz.underlying45 rfl (by kernel_rfl) ?_) | (refine box_load rfl 47 _ rfl W.heap.size rfl 47 [.int .i64 n1, .int .i64 n2, .int .i64 n3] NS.out _ Tryz.underlying47 rfl (by kernel_rfl) ?_))
          refine (spec_StrengthOf.calls p k c d n1 n2 n3 (D_strength p k n1 n2 n3) 0 _ HS2.out).mono ?_
          rintro e wS ⟨rfl, hb⟩
          have HNOW2 := Aside0.mk (HNOW'.out.below hb)
          have HBN2 := Aside0.mk (below_step HBN'.out hb)
          have NS2 := Aside0.mk (NS.out.below hb)
          clear hb HNOW' HBN' NS
          have hcM := cell_stays HBN2.out HCM.out
          cases eM
          have HNOW3 := Aside0.mk (HNOW2.out.row [.int .i64 n1, .int .i64 n2, .int .i64 n3])
          have HBN3 := Aside0.mk (below_row HBN2.out (Nat.le_refl _) ([.int .i64 n1, .int .i64 n2, .int .i64 n3] : List Value).toArray)
          go_wp2_with (first | (refine box_load rfl 47 _ rfl W.heap.size rfl 47 [.int .i64 n1, .int .i64 n2, .int .i64 n3] NS2.out _ Tryz.underlying47 rfl (by kernel_rfl) ?_) | (refine box_store rfl 47 _ _ rfl wc.heap.size [.int .i64 n1, .int .i64 n2, .int .i64 n3] rfl rfl 47 [.int .i64 v_, .int .i64 u_, .int .i64 g_] HNOW2.out (by kernel_rfl) rfl (by rfl) ?_))
          go_roundg k1
          case measure => omega
          case rel => exact ⟨i + 1, n1, n2, n3, R', _, rfl, (by first | rfl | exact congrArg (Value.int .i64) hwi), ⟨by have := HI.out; omega⟩, HR2, HV2, HRN2, HL2, HNOW3, HBN3⟩
         ·have h2b : (two == 0) = false := beq_eq_false_iff_ne.mpr h2
          clear h2
          have HNOW3 := Aside0.mk (HNOW'.out.row [.int .i64 n1, .int .i64 n2, .int .i64 n3])
          have HBN3 := Aside0.mk (below_row HBN'.out (Nat.le_refl _) ([.int .i64 n1, .int .i64 n2, .int .i64 n3] : List Value).toArray)
          go_wp2_with (first | (refine box_load rfl 47 _ rfl W.heap.size rfl 47 [.int .i64 n1, .int .i64 n2, .int .i64 n3] NS.out _ Tryz.underlying47 rfl (by kernel_rfl) ?_) | (refine box_store rfl 47 _ _ rfl wc.heap.size [.int .i64 n1, .int .i64 n2, .int .i64 n3] rfl rfl 47 [.int .i64 v_, .int .i64 u_, .int .i64 g_] HNOW'.out (by kernel_rfl) rfl (by rfl) ?_))
          go_roundg k1
          case measure => omega
          case rel => exact ⟨i + 1, n1, n2, n3, R', _, rfl, (by first | rfl | exact congrArg (Value.int .i64) hwi), ⟨by have := HI.out; omega⟩, HR2, HV2, HRN2, HL2, HNOW3, HBN3⟩
        ·obtain ⟨h1, h2⟩ := HNE.out hc2
         have hn := HNZ.out (h1 ▸ hc2)
         have q1 : (c2 != 0) = true := bne_iff_ne.mpr hc2
         have q1' : (c2 == 0) = false := beq_eq_false_iff_ne.mpr hc2
         have q2 : (three == 0) = true := beq_iff_eq.mpr hn.1
         have q3 : (at_ == i) = true := beq_iff_eq.mpr (by have h3 := HRN.out; rw [h2] at h3; have := List.drop_eq_nil_iff.mp h3.1; have := HI.out.1; omega)
         have q4 : (two == c2) = true := beq_iff_eq.mpr h1
         have HBE := Aside0.mk (below_step HB_17.out HBN'.out)
         clear hn h2 hc2 q4
         obtain rfl : c2 = two := h1.symm
         go_wp2_with fail
         go_ret
         exact ⟨by first | rfl | simp, HBE.out⟩
      ·subst hk
       as_aux_lemma =>
        have hf : impl_RestBath.f p k c d v_ u_ g_ nn = some (n1, n2, n3, c2) := by
         have h_ := HDO.out
         unfold D_do1 at h_
         simp only [if_true, eq_self, show ¬ ((1 : Int) = 0) from by decide, if_false] at h_
         rw [L_implRest HCD.out.1 HCD.out.2, ← h_]
        have HF := Aside0.mk hf
        clear hf
        go_upto_region 25 with (first | (refine box_load rfl 47 _ rfl wc.heap.size rfl 47 [.int .i64 v_, .int .i64 u_, .int .i64 g_] HNOW.out _ Tryz.underlying47 rfl (by kernel_rfl) ?_))
        have HBDW := Aside0.mk (HBD_17.out.below HBN.out)
        have HNW := Aside0.mk (cell_stays HBN.out HN.out)
        refine region_base (S := fun w' => Below W.heap.size W w') (F := fun w' => BoxAt w' W.heap.size 47 [.int .i64 v_, .int .i64 u_, .int .i64 g_]) (by kernel_rfl) (below_drew1 HAL.out) HX.out.drew (fun V0 hHeld hF => ?_)
        have NW := Aside0.mk hF
        clear hF
        refine wpAnyH_take (i := 0) (v := .agg ([.int .i64 p, .int .i64 k, .int .i8 c, .int .i8 d] : List Value).toArray) rfl (by kernel_rfl) (by kernel_rfl) (by kernel_rfl) (fun _ _ _ h => h) (yieldsIf_load_mid (by rfl) _ _ rfl _ _ rfl _ _ (fun w' h => BoxAt.range (HBDW.out.below h)) Tryz.underlying45 rfl (by kernel_rfl)) (by assumption) ?_
        try simp only [List.getElem_toArray, List.getElem_cons_succ, List.getElem_cons_zero, Act.put, List.setIfInBounds_toArray, List.set_cons_zero, List.set_cons_succ]
        refine wpAnyH_take (i := 1) (v := .agg ([.int .i64 v_, .int .i64 u_, .int .i64 g_] : List Value).toArray) rfl (by kernel_rfl) (by kernel_rfl) (by kernel_rfl) (fun _ _ _ h => h) (yieldsIf_load_mid (by rfl) _ _ rfl _ _ rfl _ _ (fun w' h => BoxAt.range (HNOW.out.below h)) Tryz.underlying47 rfl (by kernel_rfl)) (by assumption) ?_
        try simp only [List.getElem_toArray, List.getElem_cons_succ, List.getElem_cons_zero, Act.put, List.setIfInBounds_toArray, List.set_cons_zero, List.set_cons_succ]
        refine wpAnyH_take (i := 2) (v := ?_) rfl (by kernel_rfl) (by kernel_rfl) (by kernel_rfl) (fun _ _ _ h => h) (Or.inl ⟨by rfl, ?_⟩) (by assumption) ?_
        rotate_left
        ·intro w hSw
         go_simp
         with_reducible rfl
        try simp only [List.getElem_toArray, List.getElem_cons_succ, List.getElem_cons_zero, Act.put, List.setIfInBounds_toArray, List.set_cons_zero, List.set_cons_succ]
        refine wpAnyH_take (i := 3) (v := ?_) rfl (by kernel_rfl) (by kernel_rfl) (by kernel_rfl) (fun _ _ _ h => h) (Or.inl ⟨by rfl, ?_⟩) (by assumption) ?_
        rotate_left
        ·intro w hSw
         go_simp
         with_reducible rfl
        try simp only [List.getElem_toArray, List.getElem_cons_succ, List.getElem_cons_zero, Act.put, List.setIfInBounds_toArray, List.set_cons_zero, List.set_cons_succ]
        refine wpAnyH_take (i := 4) (v := ?_) rfl (by kernel_rfl) (by kernel_rfl) (by kernel_rfl) (fun _ _ _ h => h) (Or.inl ⟨by rfl, ?_⟩) (by assumption) ?_
        rotate_left
        ·intro w hSw
         go_simp
         with_reducible rfl
        try simp only [List.getElem_toArray, List.getElem_cons_succ, List.getElem_cons_zero, Act.put, List.setIfInBounds_toArray, List.set_cons_zero, List.set_cons_succ]
        refine wpAnyH_take (i := 5) (v := ?_) rfl (by kernel_rfl) (by kernel_rfl) (by kernel_rfl) (fun _ _ _ h => h) (Or.inl ⟨by rfl, ?_⟩) (by assumption) ?_
        rotate_left
        ·intro w hSw
         go_simp
         with_reducible rfl
        try simp only [List.getElem_toArray, List.getElem_cons_succ, List.getElem_cons_zero, Act.put, List.setIfInBounds_toArray, List.set_cons_zero, List.set_cons_succ]
        refine wpAnyH_take (i := 6) (v := ?_) rfl (by kernel_rfl) (by kernel_rfl) (by kernel_rfl) (fun _ _ _ h => h) (Or.inl ⟨by rfl, ?_⟩) (by assumption) ?_
        rotate_left
        ·intro w' hSw
         have hcell0 := cell_stays hSw HNW.out
         go_simp
         with_reducible rfl
        try simp only [List.getElem_toArray, List.getElem_cons_succ, List.getElem_cons_zero, Act.put, List.setIfInBounds_toArray, List.set_cons_zero, List.set_cons_succ]
        have HGN := Aside0.mk (show W.heap.size ≤ W.heap.size from Nat.le_refl _)
        refine wpAnyH_ready (rs := [7]) (by kernel_rfl) (by simp) ?_
        refine AllReadyH.cons rfl (fun K hK => ?_) AllReadyH.nil
        have q := hHeld
        clear hHeld
        go_simp
        refine (impl_RestBath.calls p k c d v_ u_ g_ nn n1 n2 n3 c2 _ HF.out).mono ?_
        rintro e V1 ⟨rfl, hb⟩
        go_wp2_with fail
        have NW' := Aside0.mk (NW.out.below hb)
        clear NW
        refine hK.out _ _ (below_step q hb) (fun hHeld => ?_)
        clear hK K hb q
        try simp only [List.getElem_toArray, List.getElem_cons_succ, List.getElem_cons_zero, Act.put, List.setIfInBounds_toArray, List.set_cons_zero, List.set_cons_succ]
        refine wpAnyH_take (i := 8) (v := ?_) rfl (by kernel_rfl) (by kernel_rfl) (by kernel_rfl) (fun _ _ _ h => h) (Or.inl ⟨by rfl, ?_⟩) (by assumption) ?_
        rotate_left
        ·intro w hSw
         go_simp
         with_reducible rfl
        try simp only [List.getElem_toArray, List.getElem_cons_succ, List.getElem_cons_zero, Act.put, List.setIfInBounds_toArray, List.set_cons_zero, List.set_cons_succ]
        refine wpAnyH_take (i := 9) (v := ?_) rfl (by kernel_rfl) (by kernel_rfl) (by kernel_rfl) (fun _ _ _ h => h) (Or.inl ⟨by rfl, ?_⟩) (by assumption) ?_
        rotate_left
        ·intro w hSw
         go_simp
         with_reducible rfl
        try simp only [List.getElem_toArray, List.getElem_cons_succ, List.getElem_cons_zero, Act.put, List.setIfInBounds_toArray, List.set_cons_zero, List.set_cons_succ]
        refine wpAnyH_take (i := 10) (v := ?_) rfl (by kernel_rfl) (by kernel_rfl) (by kernel_rfl) (fun _ _ _ h => h) (Or.inl ⟨by rfl, ?_⟩) (by assumption) ?_
        rotate_left
        ·intro w hSw
         go_simp
         with_reducible rfl
        try simp only [List.getElem_toArray, List.getElem_cons_succ, List.getElem_cons_zero, Act.put, List.setIfInBounds_toArray, List.set_cons_zero, List.set_cons_succ]
        refine wpAnyH_ready (rs := [11]) (by kernel_rfl) (by simp) ?_
        refine AllReadyH.cons rfl (fun K hK => ?_) AllReadyH.nil
        have q := hHeld
        clear hHeld
        rw [if_pos (by rfl)]
        refine box_wp_store 47 _ _ rfl W.heap.size [.int .i64 n1, .int .i64 n2, .int .i64 n3] rfl rfl 47 [.int .i64 v_, .int .i64 u_, .int .i64 g_] NW'.out (by kernel_rfl) rfl (by rfl) ?_
        have NS := Aside0.mk (NW'.out.row [.int .i64 n1, .int .i64 n2, .int .i64 n3])
        refine hK.out _ _ (below_row q HGN.out _) (fun hHeld => ?_)
        clear hK K q
        try simp only [List.getElem_toArray, List.getElem_cons_succ, List.getElem_cons_zero, Act.put, List.setIfInBounds_toArray, List.set_cons_zero, List.set_cons_succ]
        refine wpAnyH_take (i := 12) (v := ?_) rfl (by kernel_rfl) (by kernel_rfl) (by kernel_rfl) (fun _ _ _ h => h) (Or.inl ⟨by rfl, ?_⟩) (by assumption) ?_
        rotate_left
        ·intro w hSw
         go_simp
         with_reducible rfl
        try simp only [List.getElem_toArray, List.getElem_cons_succ, List.getElem_cons_zero, Act.put, List.setIfInBounds_toArray, List.set_cons_zero, List.set_cons_succ]
        refine wpAnyH_done (by kernel_rfl) ?_ _
        have QB := Aside0.mk hHeld
        clear hHeld
        have HNOW' := Aside0.mk (HNOW.out.below QB.out)
        have HBN' := Aside0.mk (below_step HBN.out QB.out)
        have HDV := Aside0.mk (HBDW.out.below QB.out)
        clear HNOW
        by_cases hc2 : c2 = 0
        ·subst hc2
         obtain ⟨R', hr1, hr2, hr3, hr4, hr5⟩ := HEQ.out rfl
         have HV2 := Aside0.mk hr3
         have HR2 := Aside0.mk hr2
         have HL2 := Aside0.mk (hr4.trans HLB.out)
         have HS2 := Aside0.mk hr5
         have hrn2 : Rn.drop (i + 1).toNat = R' ∧ i + 1 ≤ (Rn.length : Int) := L_dropStep HI.out.1 (HRN.out.1.trans hr1)
         have HRN2 := Aside0.mk hrn2
         have hst : two = 0 → (M.length : Int) = (A.length : Int) + 1 ∧ rd M (i + 1) = D_strength p k n1 n2 n3 := fun h => by
          obtain ⟨_, _, hm⟩ := HZ.out h
          have hf := HFU.out h
          rw [hm]
          refine ⟨by simp [hf], ?_⟩
          rw [L_rdMapAt (D_strength p k v u g) (fun x => D_strength p k x.f0 x.f1 x.f2) HI.out.1 (HRN.out.1.trans hr1)]
         have HST := Aside0.mk hst
         clear hr1 hr2 hr3 hr4 hr5 hrn2 hst
         have hgl := HNOW'.out.lt
         by_cases h2 : two = 0
         ·have h2b : (two == 0) = true := beq_iff_eq.mpr h2
          obtain ⟨hml, hmr⟩ := HST.out h2
          have hwa : wrap64 ((A.length : Int) + 1) = (A.length : Int) + 1 := by have := HA5.out; unfold wrap64; omega
          obtain ⟨adM, eM, hcM⟩ := Kd.at_int SM_17.out (i + 1) (by have := HI.out.1; omega) (by have := HI.out.2; omega)
          rw [hmr] at hcM
          have p1 : (0 ≤ i + 1) = True := eq_true (by have := HI.out.1; omega)
          have p2 : (i + 1 < (M.length : Int)) = True := eq_true (by have := HI.out.2; omega)
          have HCM := Aside0.mk hcM
          clear hmr hcM h2
          go_wp2_with (first | (refine box_load rfl 45 _ rfl w2.heap.size rfl 45 [.int .i64 p, .int .i64 k, .int .i8 c, .int .i8 d] HDV.out _ Tryz.underlying45 rfl (by kernel_rfl) ?_) | (refine box_load rfl 47 _ rfl W.heap.size rfl 47 [.int .i64 n1, .int .i64 n2, .int .i64 n3] NS.out _ Tryz.underlying47 rfl (by kernel_rfl) ?_))
          refine (spec_StrengthOf.calls p k c d n1 n2 n3 (D_strength p k n1 n2 n3) 0 _ HS2.out).mono ?_
          rintro e wS ⟨rfl, hb⟩
          have HNOW2 := Aside0.mk (HNOW'.out.below hb)
          have HBN2 := Aside0.mk (below_step HBN'.out hb)
          have NS2 := Aside0.mk (NS.out.below hb)
          clear hb HNOW' HBN' NS
          have hcM := cell_stays HBN2.out HCM.out
          cases eM
          have HNOW3 := Aside0.mk (HNOW2.out.row [.int .i64 n1, .int .i64 n2, .int .i64 n3])
          have HBN3 := Aside0.mk (below_row HBN2.out (Nat.le_refl _) ([.int .i64 n1, .int .i64 n2, .int .i64 n3] : List Value).toArray)
          go_wp2_with (first | (refine box_load rfl 47 _ rfl W.heap.size rfl 47 [.int .i64 n1, .int .i64 n2, .int .i64 n3] NS2.out _ Tryz.underlying47 rfl (by kernel_rfl) ?_) | (refine box_store rfl 47 _ _ rfl wc.heap.size [.int .i64 n1, .int .i64 n2, .int .i64 n3] rfl rfl 47 [.int .i64 v_, .int .i64 u_, .int .i64 g_] HNOW2.out (by kernel_rfl) rfl (by rfl) ?_))
          go_roundg k1
          case measure => omega
          case rel => exact ⟨i + 1, n1, n2, n3, R', _, rfl, (by first | rfl | exact congrArg (Value.int .i64) hwi), ⟨by have := HI.out; omega⟩, HR2, HV2, HRN2, HL2, HNOW3, HBN3⟩
         ·have h2b : (two == 0) = false := beq_eq_false_iff_ne.mpr h2
          clear h2
          have HNOW3 := Aside0.mk (HNOW'.out.row [.int .i64 n1, .int .i64 n2, .int .i64 n3])
          have HBN3 := Aside0.mk (below_row HBN'.out (Nat.le_refl _) ([.int .i64 n1, .int .i64 n2, .int .i64 n3] : List Value).toArray)
          go_wp2_with (first | (refine box_load rfl 47 _ rfl W.heap.size rfl 47 [.int .i64 n1, .int .i64 n2, .int .i64 n3] NS.out _ Tryz.underlying47 rfl (by kernel_rfl) ?_) | (refine box_store rfl 47 _ _ rfl wc.heap.size [.int .i64 n1, .int .i64 n2, .int .i64 n3] rfl rfl 47 [.int .i64 v_, .int .i64 u_, .int .i64 g_] HNOW'.out (by kernel_rfl) rfl (by rfl) ?_))
          go_roundg k1
          case measure => omega
          case rel => exact ⟨i + 1, n1, n2, n3, R', _, rfl, (by first | rfl | exact congrArg (Value.int .i64) hwi), ⟨by have := HI.out; omega⟩, HR2, HV2, HRN2, HL2, HNOW3, HBN3⟩
        ·obtain ⟨h1, h2⟩ := HNE.out hc2
         have hn := HNZ.out (h1 ▸ hc2)
         have q1 : (c2 != 0) = true := bne_iff_ne.mpr hc2
         have q1' : (c2 == 0) = false := beq_eq_false_iff_ne.mpr hc2
         have q2 : (three == 0) = true := beq_iff_eq.mpr hn.1
         have q3 : (at_ == i) = true := beq_iff_eq.mpr (by have h3 := HRN.out; rw [h2] at h3; have := List.drop_eq_nil_iff.mp h3.1; have := HI.out.1; omega)
         have q4 : (two == c2) = true := beq_iff_eq.mpr h1
         have HBE := Aside0.mk (below_step HB_17.out HBN'.out)
         clear hn h2 hc2 q4
         obtain rfl : c2 = two := h1.symm
         go_wp2_with fail
         go_ret
         exact ⟨by first | rfl | simp, HBE.out⟩
      ·subst hk
       as_aux_lemma =>
        have hf : impl_Replenish.f p k c d v_ u_ g_ nn = some (n1, n2, n3, c2) := by
         have h_ := HDO.out
         unfold D_do1 at h_
         simp only [show ¬ ((2 : Int) = 0) from by decide, show ¬ ((2 : Int) = 1) from by decide, if_false] at h_
         rw [L_implReplenish HCD.out.1 HCD.out.2, ← h_]
        have HF := Aside0.mk hf
        clear hf
        go_upto_region 21 with (first | (refine box_load rfl 47 _ rfl wc.heap.size rfl 47 [.int .i64 v_, .int .i64 u_, .int .i64 g_] HNOW.out _ Tryz.underlying47 rfl (by kernel_rfl) ?_))
        have HBDW := Aside0.mk (HBD_17.out.below HBN.out)
        have HNW := Aside0.mk (cell_stays HBN.out HN.out)
        refine region_base (S := fun w' => Below W.heap.size W w') (F := fun w' => BoxAt w' W.heap.size 47 [.int .i64 v_, .int .i64 u_, .int .i64 g_]) (by kernel_rfl) (below_drew1 HAL.out) HX.out.drew (fun V0 hHeld hF => ?_)
        have NW := Aside0.mk hF
        clear hF
        refine wpAnyH_take (i := 0) (v := .agg ([.int .i64 p, .int .i64 k, .int .i8 c, .int .i8 d] : List Value).toArray) rfl (by kernel_rfl) (by kernel_rfl) (by kernel_rfl) (fun _ _ _ h => h) (yieldsIf_load_mid (by rfl) _ _ rfl _ _ rfl _ _ (fun w' h => BoxAt.range (HBDW.out.below h)) Tryz.underlying45 rfl (by kernel_rfl)) (by assumption) ?_
        try simp only [List.getElem_toArray, List.getElem_cons_succ, List.getElem_cons_zero, Act.put, List.setIfInBounds_toArray, List.set_cons_zero, List.set_cons_succ]
        refine wpAnyH_take (i := 1) (v := .agg ([.int .i64 v_, .int .i64 u_, .int .i64 g_] : List Value).toArray) rfl (by kernel_rfl) (by kernel_rfl) (by kernel_rfl) (fun _ _ _ h => h) (yieldsIf_load_mid (by rfl) _ _ rfl _ _ rfl _ _ (fun w' h => BoxAt.range (HNOW.out.below h)) Tryz.underlying47 rfl (by kernel_rfl)) (by assumption) ?_
        try simp only [List.getElem_toArray, List.getElem_cons_succ, List.getElem_cons_zero, Act.put, List.setIfInBounds_toArray, List.set_cons_zero, List.set_cons_succ]
        refine wpAnyH_take (i := 2) (v := ?_) rfl (by kernel_rfl) (by kernel_rfl) (by kernel_rfl) (fun _ _ _ h => h) (Or.inl ⟨by rfl, ?_⟩) (by assumption) ?_
        rotate_left
        ·intro w hSw
         go_simp
         with_reducible rfl
        try simp only [List.getElem_toArray, List.getElem_cons_succ, List.getElem_cons_zero, Act.put, List.setIfInBounds_toArray, List.set_cons_zero, List.set_cons_succ]
        refine wpAnyH_take (i := 3) (v := ?_) rfl (by kernel_rfl) (by kernel_rfl) (by kernel_rfl) (fun _ _ _ h => h) (Or.inl ⟨by rfl, ?_⟩) (by assumption) ?_
        rotate_left
        ·intro w hSw
         go_simp
         with_reducible rfl
        try simp only [List.getElem_toArray, List.getElem_cons_succ, List.getElem_cons_zero, Act.put, List.setIfInBounds_toArray, List.set_cons_zero, List.set_cons_succ]
        refine wpAnyH_take (i := 4) (v := ?_) rfl (by kernel_rfl) (by kernel_rfl) (by kernel_rfl) (fun _ _ _ h => h) (Or.inl ⟨by rfl, ?_⟩) (by assumption) ?_
        rotate_left
        ·intro w hSw
         go_simp
         with_reducible rfl
        try simp only [List.getElem_toArray, List.getElem_cons_succ, List.getElem_cons_zero, Act.put, List.setIfInBounds_toArray, List.set_cons_zero, List.set_cons_succ]
        refine wpAnyH_take (i := 5) (v := ?_) rfl (by kernel_rfl) (by kernel_rfl) (by kernel_rfl) (fun _ _ _ h => h) (Or.inl ⟨by rfl, ?_⟩) (by assumption) ?_
        rotate_left
        ·intro w hSw
         go_simp
         with_reducible rfl
        try simp only [List.getElem_toArray, List.getElem_cons_succ, List.getElem_cons_zero, Act.put, List.setIfInBounds_toArray, List.set_cons_zero, List.set_cons_succ]
        refine wpAnyH_take (i := 6) (v := ?_) rfl (by kernel_rfl) (by kernel_rfl) (by kernel_rfl) (fun _ _ _ h => h) (Or.inl ⟨by rfl, ?_⟩) (by assumption) ?_
        rotate_left
        ·intro w' hSw
         have hcell0 := cell_stays hSw HNW.out
         go_simp
         with_reducible rfl
        try simp only [List.getElem_toArray, List.getElem_cons_succ, List.getElem_cons_zero, Act.put, List.setIfInBounds_toArray, List.set_cons_zero, List.set_cons_succ]
        have HGN := Aside0.mk (show W.heap.size ≤ W.heap.size from Nat.le_refl _)
        refine wpAnyH_ready (rs := [7]) (by kernel_rfl) (by simp) ?_
        refine AllReadyH.cons rfl (fun K hK => ?_) AllReadyH.nil
        have q := hHeld
        clear hHeld
        go_simp
        refine (impl_Replenish.calls p k c d v_ u_ g_ nn n1 n2 n3 c2 _ HF.out).mono ?_
        rintro e V1 ⟨rfl, hb⟩
        go_wp2_with fail
        have NW' := Aside0.mk (NW.out.below hb)
        clear NW
        refine hK.out _ _ (below_step q hb) (fun hHeld => ?_)
        clear hK K hb q
        try simp only [List.getElem_toArray, List.getElem_cons_succ, List.getElem_cons_zero, Act.put, List.setIfInBounds_toArray, List.set_cons_zero, List.set_cons_succ]
        refine wpAnyH_take (i := 8) (v := ?_) rfl (by kernel_rfl) (by kernel_rfl) (by kernel_rfl) (fun _ _ _ h => h) (Or.inl ⟨by rfl, ?_⟩) (by assumption) ?_
        rotate_left
        ·intro w hSw
         go_simp
         with_reducible rfl
        try simp only [List.getElem_toArray, List.getElem_cons_succ, List.getElem_cons_zero, Act.put, List.setIfInBounds_toArray, List.set_cons_zero, List.set_cons_succ]
        refine wpAnyH_take (i := 9) (v := ?_) rfl (by kernel_rfl) (by kernel_rfl) (by kernel_rfl) (fun _ _ _ h => h) (Or.inl ⟨by rfl, ?_⟩) (by assumption) ?_
        rotate_left
        ·intro w hSw
         go_simp
         with_reducible rfl
        try simp only [List.getElem_toArray, List.getElem_cons_succ, List.getElem_cons_zero, Act.put, List.setIfInBounds_toArray, List.set_cons_zero, List.set_cons_succ]
        refine wpAnyH_take (i := 10) (v := ?_) rfl (by kernel_rfl) (by kernel_rfl) (by kernel_rfl) (fun _ _ _ h => h) (Or.inl ⟨by rfl, ?_⟩) (by assumption) ?_
        rotate_left
        ·intro w hSw
         go_simp
         with_reducible rfl
        try simp only [List.getElem_toArray, List.getElem_cons_succ, List.getElem_cons_zero, Act.put, List.setIfInBounds_toArray, List.set_cons_zero, List.set_cons_succ]
        refine wpAnyH_ready (rs := [11]) (by kernel_rfl) (by simp) ?_
        refine AllReadyH.cons rfl (fun K hK => ?_) AllReadyH.nil
        have q := hHeld
        clear hHeld
        rw [if_pos (by rfl)]
        refine box_wp_store 47 _ _ rfl W.heap.size [.int .i64 n1, .int .i64 n2, .int .i64 n3] rfl rfl 47 [.int .i64 v_, .int .i64 u_, .int .i64 g_] NW'.out (by kernel_rfl) rfl (by rfl) ?_
        have NS := Aside0.mk (NW'.out.row [.int .i64 n1, .int .i64 n2, .int .i64 n3])
        refine hK.out _ _ (below_row q HGN.out _) (fun hHeld => ?_)
        clear hK K q
        try simp only [List.getElem_toArray, List.getElem_cons_succ, List.getElem_cons_zero, Act.put, List.setIfInBounds_toArray, List.set_cons_zero, List.set_cons_succ]
        refine wpAnyH_take (i := 12) (v := ?_) rfl (by kernel_rfl) (by kernel_rfl) (by kernel_rfl) (fun _ _ _ h => h) (Or.inl ⟨by rfl, ?_⟩) (by assumption) ?_
        rotate_left
        ·intro w hSw
         go_simp
         with_reducible rfl
        try simp only [List.getElem_toArray, List.getElem_cons_succ, List.getElem_cons_zero, Act.put, List.setIfInBounds_toArray, List.set_cons_zero, List.set_cons_succ]
        refine wpAnyH_done (by kernel_rfl) ?_ _
        have QB := Aside0.mk hHeld
        clear hHeld
        have HNOW' := Aside0.mk (HNOW.out.below QB.out)
        have HBN' := Aside0.mk (below_step HBN.out QB.out)
        have HDV := Aside0.mk (HBDW.out.below QB.out)
        clear HNOW
        by_cases hc2 : c2 = 0
        ·subst hc2
         obtain ⟨R', hr1, hr2, hr3, hr4, hr5⟩ := HEQ.out rfl
         have HV2 := Aside0.mk hr3
         have HR2 := Aside0.mk hr2
         have HL2 := Aside0.mk (hr4.trans HLB.out)
         have HS2 := Aside0.mk hr5
         have hrn2 : Rn.drop (i + 1).toNat = R' ∧ i + 1 ≤ (Rn.length : Int) := L_dropStep HI.out.1 (HRN.out.1.trans hr1)
         have HRN2 := Aside0.mk hrn2
         have hst : two = 0 → (M.length : Int) = (A.length : Int) + 1 ∧ rd M (i + 1) = D_strength p k n1 n2 n3 := fun h => by
          obtain ⟨_, _, hm⟩ := HZ.out h
          have hf := HFU.out h
          rw [hm]
          refine ⟨by simp [hf], ?_⟩
          rw [L_rdMapAt (D_strength p k v u g) (fun x => D_strength p k x.f0 x.f1 x.f2) HI.out.1 (HRN.out.1.trans hr1)]
         have HST := Aside0.mk hst
         clear hr1 hr2 hr3 hr4 hr5 hrn2 hst
         have hgl := HNOW'.out.lt
         by_cases h2 : two = 0
         ·have h2b : (two == 0) = true := beq_iff_eq.mpr h2
          obtain ⟨hml, hmr⟩ := HST.out h2
          have hwa : wrap64 ((A.length : Int) + 1) = (A.length : Int) + 1 := by have := HA5.out; unfold wrap64; omega
          obtain ⟨adM, eM, hcM⟩ := Kd.at_int SM_17.out (i + 1) (by have := HI.out.1; omega) (by have := HI.out.2; omega)
          rw [hmr] at hcM
          have p1 : (0 ≤ i + 1) = True := eq_true (by have := HI.out.1; omega)
          have p2 : (i + 1 < (M.length : Int)) = True := eq_true (by have := HI.out.2; omega)
          have HCM := Aside0.mk hcM
          clear hmr hcM h2
          go_wp2_with (first | (refine box_load rfl 45 _ rfl w2.heap.size rfl 45 [.int .i64 p, .int .i64 k, .int .i8 c, .int .i8 d] HDV.out _ Tryz.underlying45 rfl (by kernel_rfl) ?_) | (refine box_load rfl 47 _ rfl W.heap.size rfl 47 [.int .i64 n1, .int .i64 n2, .int .i64 n3] NS.out _ Tryz.underlying47 rfl (by kernel_rfl) ?_))
          refine (spec_StrengthOf.calls p k c d n1 n2 n3 (D_strength p k n1 n2 n3) 0 _ HS2.out).mono ?_
          rintro e wS ⟨rfl, hb⟩
          have HNOW2 := Aside0.mk (HNOW'.out.below hb)
          have HBN2 := Aside0.mk (below_step HBN'.out hb)
          have NS2 := Aside0.mk (NS.out.below hb)
          clear hb HNOW' HBN' NS
          have hcM := cell_stays HBN2.out HCM.out
          cases eM
          have HNOW3 := Aside0.mk (HNOW2.out.row [.int .i64 n1, .int .i64 n2, .int .i64 n3])
          have HBN3 := Aside0.mk (below_row HBN2.out (Nat.le_refl _) ([.int .i64 n1, .int .i64 n2, .int .i64 n3] : List Value).toArray)
          go_wp2_with (first | (refine box_load rfl 47 _ rfl W.heap.size rfl 47 [.int .i64 n1, .int .i64 n2, .int .i64 n3] NS2.out _ Tryz.underlying47 rfl (by kernel_rfl) ?_) | (refine box_store rfl 47 _ _ rfl wc.heap.size [.int .i64 n1, .int .i64 n2, .int .i64 n3] rfl rfl 47 [.int .i64 v_, .int .i64 u_, .int .i64 g_] HNOW2.out (by kernel_rfl) rfl (by rfl) ?_))
          go_roundg k1
          case measure => omega
          case rel => exact ⟨i + 1, n1, n2, n3, R', _, rfl, (by first | rfl | exact congrArg (Value.int .i64) hwi), ⟨by have := HI.out; omega⟩, HR2, HV2, HRN2, HL2, HNOW3, HBN3⟩
         ·have h2b : (two == 0) = false := beq_eq_false_iff_ne.mpr h2
          clear h2
          have HNOW3 := Aside0.mk (HNOW'.out.row [.int .i64 n1, .int .i64 n2, .int .i64 n3])
          have HBN3 := Aside0.mk (below_row HBN'.out (Nat.le_refl _) ([.int .i64 n1, .int .i64 n2, .int .i64 n3] : List Value).toArray)
          go_wp2_with (first | (refine box_load rfl 47 _ rfl W.heap.size rfl 47 [.int .i64 n1, .int .i64 n2, .int .i64 n3] NS.out _ Tryz.underlying47 rfl (by kernel_rfl) ?_) | (refine box_store rfl 47 _ _ rfl wc.heap.size [.int .i64 n1, .int .i64 n2, .int .i64 n3] rfl rfl 47 [.int .i64 v_, .int .i64 u_, .int .i64 g_] HNOW'.out (by kernel_rfl) rfl (by rfl) ?_))
          go_roundg k1
          case measure => omega
          case rel => exact ⟨i + 1, n1, n2, n3, R', _, rfl, (by first | rfl | exact congrArg (Value.int .i64) hwi), ⟨by have := HI.out; omega⟩, HR2, HV2, HRN2, HL2, HNOW3, HBN3⟩
        ·obtain ⟨h1, h2⟩ := HNE.out hc2
         have hn := HNZ.out (h1 ▸ hc2)
         have q1 : (c2 != 0) = true := bne_iff_ne.mpr hc2
         have q1' : (c2 == 0) = false := beq_eq_false_iff_ne.mpr hc2
         have q2 : (three == 0) = true := beq_iff_eq.mpr hn.1
         have q3 : (at_ == i) = true := beq_iff_eq.mpr (by have h3 := HRN.out; rw [h2] at h3; have := List.drop_eq_nil_iff.mp h3.1; have := HI.out.1; omega)
         have q4 : (two == c2) = true := beq_iff_eq.mpr h1
         have HBE := Aside0.mk (below_step HB_17.out HBN'.out)
         clear hn h2 hc2 q4
         obtain rfl : c2 = two := h1.symm
         go_wp2_with fail
         go_ret
         exact ⟨by first | rfl | simp, HBE.out⟩
     | zero =>
      have hdec : decide (i < (A.length : Int)) = false := decide_eq_false (by have := HI.out; omega)
      have hend : two = 0 ∧ R = [] := by have h1 := HRI.out; have h2 := HI.out; rw [List.drop_eq_nil_of_le (by omega)] at h1; unfold D_run at h1; obtain ⟨a, b⟩ := Prod.mk.inj h1; exact ⟨b.symm, a.symm⟩
      obtain ⟨h1, h2⟩ := hend
      obtain ⟨q1, q2, _⟩ := HZ.out h1
      have hl := HLB.out
      rw [h2, ← q2] at hl
      obtain ⟨rfl, rfl, rfl⟩ : v_ = b1 ∧ u_ = b2 ∧ g_ = b3 := by have h3 : (⟨v_, u_, g_⟩ : S47) = ⟨b1, b2, b3⟩ := hl; injection h3 with a b c; exact ⟨a, b, c⟩
      have q3 : (three == 6) = true := beq_iff_eq.mpr q1
      have q4 : (two == 0) = true := beq_iff_eq.mpr h1
      obtain ⟨dg, hdg⟩ : ∃ q, q = 5 + x1 := ⟨_, rfl⟩
      have hw5 : wrap64 (5 + x1) = dg := by have := BX.out; unfold wrap64; omega
      obtain ⟨⟨tm, six⟩, ht⟩ : ∃ q, q = D_devTime p k c d v_ u_ g_ x0 dg := ⟨_, rfl⟩
      obtain ⟨⟨wm, sv⟩, ht2⟩ : ∃ q, q = D_devTime p k c d v_ u_ g_ x0 (dg + 1) := ⟨_, rfl⟩
      have t1 : impl_DevelopTime.f 60 p k c d v_ u_ g_ x0 dg = some (tm, six) := by rw [L_implDevTime HCD.out.1 HCD.out.2 (by omega), ← ht]
      have t2 : spec_DevelopTime.f 60 p k c d v_ u_ g_ x0 dg = some (tm, six) := by rw [L_specDevTime HCD.out.1 HCD.out.2 (by omega), ← ht]
      have t3 : impl_DevelopTime.f 60 p k c d v_ u_ g_ x0 (dg + 1) = some (wm, sv) := by rw [L_implDevTime HCD.out.1 HCD.out.2 (by omega), ← ht2]
      have hwarm : six = 0 → sv = 0 → wm ≤ tm := fun a b => by subst a; subst b; exact L_devWarm HD.out ht.symm ht2.symm
      have hwd : wrap64 (dg + 1) = dg + 1 := by have := BX.out; unfold wrap64; omega
      have HT1 := Aside0.mk t1
      have HT2 := Aside0.mk t2
      have HT3 := Aside0.mk t3
      have HWA := Aside0.mk hwarm
      have HBZ := Aside0.mk (below_step HB_17.out HBN.out)
      have HUZ := Aside0.mk (HU_17.out.below HBN.out)
      have HDZ := Aside0.mk (HBD_17.out.below HBN.out)
      clear t1 t2 t3 hwarm ht ht2 hdg hl q1 q2 h1 h2 HBN HB_17 HU_17 HBD_17 HBB_17
      go_wp2_with (first | (refine box_load rfl 45 _ rfl w2.heap.size rfl 45 [.int .i64 p, .int .i64 k, .int .i8 c, .int .i8 d] HDZ.out _ Tryz.underlying45 rfl (by kernel_rfl) ?_) | (refine box_load rfl 47 _ rfl w9.heap.size rfl 47 [.int .i64 v_, .int .i64 u_, .int .i64 g_] HUZ.out _ Tryz.underlying47 rfl (by kernel_rfl) ?_) | (refine box_load rfl 47 _ rfl wc.heap.size rfl 47 [.int .i64 v_, .int .i64 u_, .int .i64 g_] HNOW.out _ Tryz.underlying47 rfl (by kernel_rfl) ?_))
      refine (laws_a2At.calls _ _ l1 0 20 x0 _ (Kd.C_below HR1.out HBZ.out) HC1.out E0.out).mono ?_
      rintro e w61 ⟨rfl, hb⟩
      replace hb := hb.below
      have HD__61 := Aside0.mk (HDZ.out.below hb)
      have HU__61 := Aside0.mk (HUZ.out.below hb)
      have HN__61 := Aside0.mk (HNOW.out.below hb)
      have HB_61 := Aside0.mk (below_step HBZ.out hb)
      clear hb HDZ HUZ HNOW HBZ
      go_wp2_with (first | (refine box_load rfl 45 _ rfl w2.heap.size rfl 45 [.int .i64 p, .int .i64 k, .int .i8 c, .int .i8 d] HD__61.out _ Tryz.underlying45 rfl (by kernel_rfl) ?_) | (refine box_load rfl 47 _ rfl w9.heap.size rfl 47 [.int .i64 v_, .int .i64 u_, .int .i64 g_] HU__61.out _ Tryz.underlying47 rfl (by kernel_rfl) ?_) | (refine box_load rfl 47 _ rfl wc.heap.size rfl 47 [.int .i64 v_, .int .i64 u_, .int .i64 g_] HN__61.out _ Tryz.underlying47 rfl (by kernel_rfl) ?_))
      refine (laws_a2At.calls _ _ l1 1 46 x1 _ (Kd.C_below HR1.out HB_61.out) HC1.out E1.out).mono ?_
      rintro e w62 ⟨rfl, hb⟩
      replace hb := hb.below
      have HD__62 := Aside0.mk (HD__61.out.below hb)
      have HU__62 := Aside0.mk (HU__61.out.below hb)
      have HN__62 := Aside0.mk (HN__61.out.below hb)
      have HB_62 := Aside0.mk (below_step HB_61.out hb)
      clear hb HD__61 HU__61 HN__61 HB_61
      go_wp2_with (first | (refine box_load rfl 45 _ rfl w2.heap.size rfl 45 [.int .i64 p, .int .i64 k, .int .i8 c, .int .i8 d] HD__62.out _ Tryz.underlying45 rfl (by kernel_rfl) ?_) | (refine box_load rfl 47 _ rfl w9.heap.size rfl 47 [.int .i64 v_, .int .i64 u_, .int .i64 g_] HU__62.out _ Tryz.underlying47 rfl (by kernel_rfl) ?_) | (refine box_load rfl 47 _ rfl wc.heap.size rfl 47 [.int .i64 v_, .int .i64 u_, .int .i64 g_] HN__62.out _ Tryz.underlying47 rfl (by kernel_rfl) ?_))
      refine (impl_DevelopTime.calls 60 p k c d v_ u_ g_ x0 dg tm six _ HT1.out).mono ?_
      rintro e w63 ⟨rfl, hb⟩
      have HD__63 := Aside0.mk (HD__62.out.below hb)
      have HU__63 := Aside0.mk (HU__62.out.below hb)
      have HN__63 := Aside0.mk (HN__62.out.below hb)
      have HB_63 := Aside0.mk (below_step HB_62.out hb)
      clear hb HD__62 HU__62 HN__62 HB_62
      clear hw5
      go_wp2_with (first | (refine box_load rfl 45 _ rfl w2.heap.size rfl 45 [.int .i64 p, .int .i64 k, .int .i8 c, .int .i8 d] HD__63.out _ Tryz.underlying45 rfl (by kernel_rfl) ?_) | (refine box_load rfl 47 _ rfl w9.heap.size rfl 47 [.int .i64 v_, .int .i64 u_, .int .i64 g_] HU__63.out _ Tryz.underlying47 rfl (by kernel_rfl) ?_) | (refine box_load rfl 47 _ rfl wc.heap.size rfl 47 [.int .i64 v_, .int .i64 u_, .int .i64 g_] HN__63.out _ Tryz.underlying47 rfl (by kernel_rfl) ?_))
      refine (spec_DevelopTime.calls 60 p k c d v_ u_ g_ x0 dg tm six _ HT2.out).mono ?_
      rintro e w64 ⟨rfl, hb⟩
      have HD__64 := Aside0.mk (HD__63.out.below hb)
      have HU__64 := Aside0.mk (HU__63.out.below hb)
      have HN__64 := Aside0.mk (HN__63.out.below hb)
      have HB_64 := Aside0.mk (below_step HB_63.out hb)
      clear hb HD__63 HU__63 HN__63 HB_63
      by_cases hsix : six = 0
      ·have s1 : (six == 0) = true := beq_iff_eq.mpr hsix
       by_cases hdeg : dg < 50
       ·have s2 : decide (dg < 50) = true := decide_eq_true hdeg
        go_wp2_with (first | (refine box_load rfl 45 _ rfl w2.heap.size rfl 45 [.int .i64 p, .int .i64 k, .int .i8 c, .int .i8 d] HD__64.out _ Tryz.underlying45 rfl (by kernel_rfl) ?_) | (refine box_load rfl 47 _ rfl w9.heap.size rfl 47 [.int .i64 v_, .int .i64 u_, .int .i64 g_] HU__64.out _ Tryz.underlying47 rfl (by kernel_rfl) ?_) | (refine box_load rfl 47 _ rfl wc.heap.size rfl 47 [.int .i64 v_, .int .i64 u_, .int .i64 g_] HN__64.out _ Tryz.underlying47 rfl (by kernel_rfl) ?_))
        refine (impl_DevelopTime.calls 60 p k c d v_ u_ g_ x0 (dg + 1) wm sv _ HT3.out).mono ?_
        rintro e w65 ⟨rfl, hb⟩
        have HD__65 := Aside0.mk (HD__64.out.below hb)
        have HU__65 := Aside0.mk (HU__64.out.below hb)
        have HN__65 := Aside0.mk (HN__64.out.below hb)
        have HB_65 := Aside0.mk (below_step HB_64.out hb)
        clear hb HD__64 HU__64 HN__64 HB_64
        by_cases hsv : sv = 0
        ·have s3 : (sv == 0) = true := beq_iff_eq.mpr hsv
         have s4 : decide (tm < wm) = false := decide_eq_false (by have := HWA.out hsix hsv; omega)
         clear hsix hdeg hsv
         go_wp2_with (first | (refine box_loadG (by rfl) 45 _ rfl w2.heap.size rfl 45 [.int .i64 p, .int .i64 k, .int .i8 c, .int .i8 d] HD__65.out _ Tryz.underlying45 rfl (by kernel_rfl) ?_) | (refine box_load rfl 45 _ rfl w2.heap.size rfl 45 [.int .i64 p, .int .i64 k, .int .i8 c, .int .i8 d] HD__65.out _ Tryz.underlying45 rfl (by kernel_rfl) ?_) | (refine box_loadG (by rfl) 47 _ rfl w9.heap.size rfl 47 [.int .i64 v_, .int .i64 u_, .int .i64 g_] HU__65.out _ Tryz.underlying47 rfl (by kernel_rfl) ?_) | (refine box_load rfl 47 _ rfl w9.heap.size rfl 47 [.int .i64 v_, .int .i64 u_, .int .i64 g_] HU__65.out _ Tryz.underlying47 rfl (by kernel_rfl) ?_) | (refine box_loadG (by rfl) 47 _ rfl wc.heap.size rfl 47 [.int .i64 v_, .int .i64 u_, .int .i64 g_] HN__65.out _ Tryz.underlying47 rfl (by kernel_rfl) ?_) | (refine box_load rfl 47 _ rfl wc.heap.size rfl 47 [.int .i64 v_, .int .i64 u_, .int .i64 g_] HN__65.out _ Tryz.underlying47 rfl (by kernel_rfl) ?_))
         go_ret
         exact ⟨rfl, HB_65.out⟩
        ·have s3 : (sv == 0) = false := beq_eq_false_iff_ne.mpr hsv
         clear hsix hdeg hsv
         go_wp2_with (first | (refine box_loadG (by rfl) 45 _ rfl w2.heap.size rfl 45 [.int .i64 p, .int .i64 k, .int .i8 c, .int .i8 d] HD__65.out _ Tryz.underlying45 rfl (by kernel_rfl) ?_) | (refine box_load rfl 45 _ rfl w2.heap.size rfl 45 [.int .i64 p, .int .i64 k, .int .i8 c, .int .i8 d] HD__65.out _ Tryz.underlying45 rfl (by kernel_rfl) ?_) | (refine box_loadG (by rfl) 47 _ rfl w9.heap.size rfl 47 [.int .i64 v_, .int .i64 u_, .int .i64 g_] HU__65.out _ Tryz.underlying47 rfl (by kernel_rfl) ?_) | (refine box_load rfl 47 _ rfl w9.heap.size rfl 47 [.int .i64 v_, .int .i64 u_, .int .i64 g_] HU__65.out _ Tryz.underlying47 rfl (by kernel_rfl) ?_) | (refine box_loadG (by rfl) 47 _ rfl wc.heap.size rfl 47 [.int .i64 v_, .int .i64 u_, .int .i64 g_] HN__65.out _ Tryz.underlying47 rfl (by kernel_rfl) ?_) | (refine box_load rfl 47 _ rfl wc.heap.size rfl 47 [.int .i64 v_, .int .i64 u_, .int .i64 g_] HN__65.out _ Tryz.underlying47 rfl (by kernel_rfl) ?_))
         go_ret
         exact ⟨rfl, HB_65.out⟩
       ·have s2 : decide (dg < 50) = false := decide_eq_false hdeg
        clear hsix hdeg
        go_wp2_with (first | (refine box_loadG (by rfl) 45 _ rfl w2.heap.size rfl 45 [.int .i64 p, .int .i64 k, .int .i8 c, .int .i8 d] HD__64.out _ Tryz.underlying45 rfl (by kernel_rfl) ?_) | (refine box_load rfl 45 _ rfl w2.heap.size rfl 45 [.int .i64 p, .int .i64 k, .int .i8 c, .int .i8 d] HD__64.out _ Tryz.underlying45 rfl (by kernel_rfl) ?_) | (refine box_loadG (by rfl) 47 _ rfl w9.heap.size rfl 47 [.int .i64 v_, .int .i64 u_, .int .i64 g_] HU__64.out _ Tryz.underlying47 rfl (by kernel_rfl) ?_) | (refine box_load rfl 47 _ rfl w9.heap.size rfl 47 [.int .i64 v_, .int .i64 u_, .int .i64 g_] HU__64.out _ Tryz.underlying47 rfl (by kernel_rfl) ?_) | (refine box_loadG (by rfl) 47 _ rfl wc.heap.size rfl 47 [.int .i64 v_, .int .i64 u_, .int .i64 g_] HN__64.out _ Tryz.underlying47 rfl (by kernel_rfl) ?_) | (refine box_load rfl 47 _ rfl wc.heap.size rfl 47 [.int .i64 v_, .int .i64 u_, .int .i64 g_] HN__64.out _ Tryz.underlying47 rfl (by kernel_rfl) ?_))
        go_ret
        exact ⟨rfl, HB_64.out⟩
      ·have s1 : (six == 0) = false := beq_eq_false_iff_ne.mpr hsix
       clear hsix
       go_wp2_with (first | (refine box_loadG (by rfl) 45 _ rfl w2.heap.size rfl 45 [.int .i64 p, .int .i64 k, .int .i8 c, .int .i8 d] HD__64.out _ Tryz.underlying45 rfl (by kernel_rfl) ?_) | (refine box_load rfl 45 _ rfl w2.heap.size rfl 45 [.int .i64 p, .int .i64 k, .int .i8 c, .int .i8 d] HD__64.out _ Tryz.underlying45 rfl (by kernel_rfl) ?_) | (refine box_loadG (by rfl) 47 _ rfl w9.heap.size rfl 47 [.int .i64 v_, .int .i64 u_, .int .i64 g_] HU__64.out _ Tryz.underlying47 rfl (by kernel_rfl) ?_) | (refine box_load rfl 47 _ rfl w9.heap.size rfl 47 [.int .i64 v_, .int .i64 u_, .int .i64 g_] HU__64.out _ Tryz.underlying47 rfl (by kernel_rfl) ?_) | (refine box_loadG (by rfl) 47 _ rfl wc.heap.size rfl 47 [.int .i64 v_, .int .i64 u_, .int .i64 g_] HN__64.out _ Tryz.underlying47 rfl (by kernel_rfl) ?_) | (refine box_load rfl 47 _ rfl wc.heap.size rfl 47 [.int .i64 v_, .int .i64 u_, .int .i64 g_] HN__64.out _ Tryz.underlying47 rfl (by kernel_rfl) ?_))
       go_ret
       exact ⟨rfl, HB_64.out⟩
set_option maxHeartbeats 8000000 in
set_option maxRecDepth 100000 in
theorem laws_FnBathActs.arr (w : World) (A0 : Option Addr) (c0 : Nat) (l0 : List Int) (hr0 : Kd.C (Kd.int .u8) w A0 l0.length l0) (hc0 : l0.length ≤ c0) (hs0 : ∀ x ∈ l0, 0 ≤ x ∧ x ≤ 255) (yy0 : l0.length * 1 ≤ 140737488351232) (A1 : Option Addr) (c1 : Nat) (l1 : List Int) (hr1 : Kd.C (Kd.int .u8) w A1 l1.length l1) (hc1 : l1.length ≤ c1) (hs1 : ∀ x ∈ l1, 0 ≤ x ∧ x ≤ 255) (yy1 : l1.length * 1 ≤ 140737488351232) (hT : Tab10 w) :
  Calls Tryz.prog 5 #[.slice A0 l0.length c0, .slice A1 l1.length c1] w fun e w' => e = .returned (.bool true) ∧ Below w.heap.size w w' := by
 obtain ⟨b, hb⟩ : ∃ b, laws_a2Long.f l0 l1 = some b := by unfold laws_a2Long.f; split; exact ⟨_, rfl⟩; exact ⟨_, rfl⟩
 cases b with
 | false => exact laws_FnBathActs.walk A0 c0 l0 A1 c1 l1 w hr0 hc0 hs0 hr1 hc1 hs1 hb hT
 | true =>
  have HL := Aside0.mk hb
  have HR0 := Aside0.mk hr0
  have HR1 := Aside0.mk hr1
  have HC0 := Aside0.mk hc0
  have HC1 := Aside0.mk hc1
  clear hb hr0 hr1 hc0 hc1 hs0 hs1 yy0 yy1 hT
  go_enter Tryz.func5, Tryz.ntmps5
  go_wp2_with fail
  refine (laws_a2Long.calls _ _ l0 _ _ l1 true _ HR0.out HC0.out HR1.out HC1.out HL.out).mono ?_
  rintro e w1 ⟨rfl, hb⟩
  have HB := Aside0.mk hb.below
  clear hb
  go_wp2_with fail
  go_ret
  exact ⟨rfl, HB.out⟩
end Go.Proofs.YtiehbagnebjadaaGreatDoor.Q
