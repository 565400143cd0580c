-- The law FnReplenished.
import Derived.Test.YtldhgldknefjdaaQx3
import Derived.Test.YtldhgldknefjdaaQx4
import Derived.Test.YtldhgldknefjdaaQx5
import Derived.Test.YtldhgldknefjdaaQx11
import Derived.Test.YtldhgldknefjdaaQx12
import Derived.Test.YtldhgldknefjdaaQx14
import Derived.Test.YtldhgldknefjdaaQx15
import Derived.Test.YtldhgldknefjdaaQx16
import Derived.Test.YtldhgldknefjdaaQx17
import Derived.Test.YtldhgldknefjdaaArrBox
import Derived.Test.YtldhgldknefjdaaArrOpen
import Derived.Test.YtldhgldknefjdaaArrPLF
import Derived.Deep.DeepCutAuto
namespace Go.Proofs.Ytldhgldknefjdaa.Q
open Go.RowKit Go.Proofs.Ytldhgldknefjdaa.PL Go.Proofs.YtldhgldknefjdaaW.PrintWords Go.Proofs.YtldhgldknefjdaaW.PrintLast Go.Proofs.YtldhgldknefjdaaW.PrintMore
attribute [local go_sem] max2_int min2_int max_two min_two max_three min_three max_four min_four
set_option linter.unusedVariables false
set_option linter.unusedSimpArgs false
theorem cell_stays {w W : World} (hb : Below w.heap.size w W) {a : Addr} {v : Value} (h : w.cell? a = some v) : W.cell? a = some v := (hb.cell (World.block_lt_of_cell? _ _ h)).trans h
set_option maxHeartbeats 8000000 in
set_option maxRecDepth 100000 in
theorem laws_FnReplenished.walk (A0 : Option Addr) (c0 : Nat) (l0 : List Int) (A1 : Option Addr) (c1 : Nat) (l1 : List Int) (w : World) (hr0 : Kd.C (Kd.int .u8) w A0 l0.length l0) (hc0 : l0.length ≤ c0) (hs0 : ∀ x ∈ l0, 0 ≤ x ∧ x ≤ 255) (hr1 : Kd.C (Kd.int .u8) w A1 l1.length l1) (hc1 : l1.length ≤ c1) (hs1 : ∀ x ∈ l1, 0 ≤ x ∧ x ≤ 255) (hlong : laws_a2Long.f l0 l1 = some false) :
    Calls Try.prog 6 #[.slice A0 l0.length c0, .slice A1 l1.length c1] w fun e w' => e = .returned (.bool true) ∧ Below w.heap.size w w' := by
  obtain ⟨p, k, c, d, v, u, g, e, hD, hV, hv, hp⟩ := L_bathDrawn hs0 (n := 60) (by omega)
  obtain ⟨x0, ex0, x00, x01⟩ := L_a2At hs1 (i := 0) (n := 251) (by omega) (by omega)
  obtain ⟨s, hs⟩ : ∃ s, s = 4 * x0 := ⟨_, rfl⟩
  have hw0 : wrap64 (4 * x0) = s := by unfold wrap64; omega
  obtain ⟨m, u1, g1, S1, r1, r2, m0, m1, r3, r4, r5, r6⟩ := L_repFirst hD hV (s := s) (by omega)
  obtain ⟨t, et, t0, t1⟩ := L_a2At hs1 (i := 1) (n := 12) (by omega) (by omega)
  obtain ⟨y, ey, y0, y1⟩ := L_a2At hs1 (i := 2) (n := 200) (by omega) (by omega)
  have hw1 : wrap64 (50 + y) = 50 + y := by unfold wrap64; omega
  obtain ⟨n, n1, n2, q1, q2, q3, q4, q5, q6⟩ := L_repLeft hD hV (a := 50 + y) (t := t) (by omega) (by omega)
  obtain ⟨A, eA, A1_, A2_⟩ := L_areasDrawn hs1 (n := 10) (by omega)
  have hD' := hD
  unfold D_dev at hD'
  have hAr : D_areas A t := ⟨fun x hx => by have := A2_ x hx; omega, by omega⟩
  obtain ⟨z1, z2⟩ := L_leastRepl (k := k) (c := c) (d := d) (by omega) (by omega) hD hV A (by omega) hAr (n := 200000) (by omega)
  obtain ⟨⟨R, sm, cc⟩, hrr⟩ : ∃ q, q = D_lrep p k c d t A [] 0 v u g := ⟨_, rfl⟩
  rw [← hrr] at z1 z2
  obtain ⟨kn, hkn⟩ : ∃ q, q = D_sheets p k v g t A u := ⟨_, rfl⟩
  have hknr := L_sheetsRange p k v g t A u
  obtain ⟨zr, z3, z4, z5⟩ := L_sheetsFrom (p := p) (k := k) (c := c) (d := d) (v := v) (u := u) (g := g) (t := t) (by omega) (by omega) A (by omega) (n := 100) (by omega)
  obtain rfl : zr = (D_sheets p k v g t A u, 0) := z5 hD hV (by omega) hAr
  rw [← hkn] at z3 z4 hknr
  have hcode := L_lrepCode p k c d t A [] 0 v u g
  rw [← hrr] at hcode
  have hRlen := L_lrepLen p k c d t A [] 0 v u g
  rw [← hrr] at hRlen
  simp only [List.length_nil, Nat.zero_add] at hRlen
  have hsame := L_a2Same R (by omega) (n := 200) (by omega)
  have EB := Aside0.mk (e)
  have HD := Aside0.mk (hD)
  have HV := Aside0.mk (hV)
  have E0 := Aside0.mk (ex0)
  have R1 := Aside0.mk (r1)
  have R2 := Aside0.mk (r2)
  have M0 := Aside0.mk (show 0 ≤ m ∧ m ≤ v from ⟨m0, m1⟩)
  have R3 := Aside0.mk (r3)
  have R4 := Aside0.mk (r4)
  have R6 := Aside0.mk (r6)
  have ET := Aside0.mk (et)
  have EY := Aside0.mk (ey)
  have BT := Aside0.mk (show (0 ≤ t ∧ t < 12) ∧ 0 ≤ y ∧ y < 200 from ⟨⟨t0, t1⟩, y0, y1⟩)
  have N1 := Aside0.mk (n1)
  have N2 := Aside0.mk (n2)
  have EA := Aside0.mk (eA)
  have HAL := Aside0.mk (A1_)
  have HA2 := Aside0.mk (A2_)
  have Z1 := Aside0.mk (z1)
  have Z2 := Aside0.mk (z2)
  have Z3 := Aside0.mk (z3)
  have Z4 := Aside0.mk (z4)
  have HKR := Aside0.mk (hknr)
  have HKN := Aside0.mk (hkn)
  have HRR := Aside0.mk (hrr)
  have HCO := Aside0.mk (hcode)
  have HSA := Aside0.mk (hsame)
  have HLO := Aside0.mk (hlong)
  have HR0 := Aside0.mk (hr0)
  have HR1 := Aside0.mk (hr1)
  have HC0 := Aside0.mk (hc0)
  have HC1 := Aside0.mk (hc1)
  have HX := Aside0.mk (hs)
  have HVV := Aside0.mk (show 1 ≤ v ∧ v ≤ 2000 by unfold D_vol at hV; omega)
  have lt1 : decide (S1 < s) = false := decide_eq_false (by omega)
  have lt2 : decide (v * p / 1000 - u < n * (50 + y)) = false := decide_eq_false q6
  have lt3 : decide (kn < 0) = false := decide_eq_false (by omega)
  have lt4 : decide ((A.length : Int) < kn) = false := decide_eq_false (by omega)
  have LT := Aside0.mk (show decide (v * p / 1000 - u < n * (50 + y)) = false from lt2)
  have Q := Aside0.mk ((⟨q1, q2, q3, q4, q5⟩ : _ ∧ _ ∧ _ ∧ _ ∧ _))
  clear hs hkn hrr e hD hV ex0 r1 r2 r3 r4 r6 et ey n1 n2 eA z1 z2 z3 z4 z5 hAr hcode hsame hlong hr0 hr1 hc0 hc1 hs0 hs1 hknr hD' hv hp x00 x01 m0 m1 r5 t0 t1 y0 y1 q1 q2 q3 q4 q5 q6 A1_ A2_ lt2 hRlen
  go_enter Try.func6, Try.ntmps6
  go_wp2_with fail
  refine (laws_a2Long.calls _ _ l0 _ _ l1 false _ HR0.out HC0.out HR1.out HC1.out HLO.out).mono ?_
  rintro e w1 ⟨rfl, hb⟩
  have HB1 := Aside0.mk hb.below
  clear hb
  go_wp2_with fail
  refine (spec_A2Bath.calls 60 _ _ l0 p k c d v u g _ (Kd.C_below HR0.out HB1.out) HC0.out EB.out).mono ?_
  rintro e w2 ⟨rfl, hb⟩
  have HB2 := Aside0.mk (below_step HB1.out hb)
  clear hb HB1
  obtain ⟨bd, bb, hba⟩ := box_two w2 43 45 [.int .i64 p, .int .i64 k, .int .i8 c, .int .i8 d] [.int .i64 v, .int .i64 u, .int .i64 g]
  have HBD := Aside0.mk (bd)
  have HBB := Aside0.mk (bb)
  have HB3 := Aside0.mk (below_step HB2.out hba)
  have HGD := Aside0.mk (show w.heap.size ≤ w2.heap.size from Below.size HB2.out)
  clear bd bb hba HB2
  go_wp2_with fail
  refine (laws_a2At.calls _ _ l1 0 251 x0 _ (Kd.C_below HR1.out HB3.out) HC1.out E0.out).mono ?_
  rintro e w4 ⟨rfl, hb⟩
  replace hb := hb.below
  have HBD_4 := Aside0.mk (HBD.out.below hb)
  have HBB_4 := Aside0.mk (HBB.out.below hb)
  have HB_4 := Aside0.mk (below_step HB3.out hb)
  clear hb HBD HBB HB3
  go_wp2_with (first | (refine box_load rfl 43 _ rfl w2.heap.size rfl 43 [.int .i64 p, .int .i64 k, .int .i8 c, .int .i8 d] HBD_4.out _ Try.underlying43 rfl (by kernel_rfl) ?_) | (refine box_load rfl 45 _ rfl (w2.heap.size + 1) rfl 45 [.int .i64 v, .int .i64 u, .int .i64 g] HBB_4.out _ Try.underlying45 rfl (by kernel_rfl) ?_))
  refine (impl_ReplenishFor.calls p k c d v u g s m 0 _ R1.out).mono ?_
  rintro e w5 ⟨rfl, hb⟩
  have HBD_5 := Aside0.mk (HBD_4.out.below hb)
  have HBB_5 := Aside0.mk (HBB_4.out.below hb)
  have HB_5 := Aside0.mk (below_step HB_4.out hb)
  clear hb HBD_4 HBB_4 HB_4
  go_wp2_with (first | (refine box_load rfl 43 _ rfl w2.heap.size rfl 43 [.int .i64 p, .int .i64 k, .int .i8 c, .int .i8 d] HBD_5.out _ Try.underlying43 rfl (by kernel_rfl) ?_) | (refine box_load rfl 45 _ rfl (w2.heap.size + 1) rfl 45 [.int .i64 v, .int .i64 u, .int .i64 g] HBB_5.out _ Try.underlying45 rfl (by kernel_rfl) ?_))
  refine (spec_ReplenishFor.calls 20002 p k c d v u g s m 0 _ R2.out).mono ?_
  rintro e w6 ⟨rfl, hb⟩
  have HBD_6 := Aside0.mk (HBD_5.out.below hb)
  have HBB_6 := Aside0.mk (HBB_5.out.below hb)
  have HB_6 := Aside0.mk (below_step HB_5.out hb)
  clear hb HBD_5 HBB_5 HB_5
  go_wp2_with (first | (refine box_load rfl 43 _ rfl w2.heap.size rfl 43 [.int .i64 p, .int .i64 k, .int .i8 c, .int .i8 d] HBD_6.out _ Try.underlying43 rfl (by kernel_rfl) ?_) | (refine box_load rfl 45 _ rfl (w2.heap.size + 1) rfl 45 [.int .i64 v, .int .i64 u, .int .i64 g] HBB_6.out _ Try.underlying45 rfl (by kernel_rfl) ?_))
  refine (impl_Replenish.calls p k c d v u g m v u1 g1 0 _ R3.out).mono ?_
  rintro e w7 ⟨rfl, hb⟩
  have HBD_7 := Aside0.mk (HBD_6.out.below hb)
  have HBB_7 := Aside0.mk (HBB_6.out.below hb)
  have HB_7 := Aside0.mk (below_step HB_6.out hb)
  clear hb HBD_6 HBB_6 HB_6
  obtain ⟨bx, hba⟩ := box_one w7 45 [.int .i64 v, .int .i64 u1, .int .i64 g1]
  have HF := Aside0.mk (bx)
  clear bx
  have HBD_8 := Aside0.mk (HBD_7.out.below hba)
  have HBB_8 := Aside0.mk (HBB_7.out.below hba)
  have HB_8 := Aside0.mk (below_step HB_7.out hba)
  clear hba HBD_7 HBB_7 HB_7
  go_wp2_with (first | (refine box_load rfl 43 _ rfl w2.heap.size rfl 43 [.int .i64 p, .int .i64 k, .int .i8 c, .int .i8 d] HBD_8.out _ Try.underlying43 rfl (by kernel_rfl) ?_) | (refine box_load rfl 45 _ rfl w7.heap.size rfl 45 [.int .i64 v, .int .i64 u1, .int .i64 g1] HF.out _ Try.underlying45 rfl (by kernel_rfl) ?_))
  refine (impl_StrengthOf.calls p k c d v u1 g1 S1 0 _ R4.out).mono ?_
  rintro e w9 ⟨rfl, hb⟩
  have HBD_9 := Aside0.mk (HBD_8.out.below hb)
  have HBB_9 := Aside0.mk (HBB_8.out.below hb)
  have HB_9 := Aside0.mk (below_step HB_8.out hb)
  clear hb HBD_8 HBB_8 HB_8
  clear HF
  go_upto_if 112 with fail
  go_cut [] (fun wc => Aside0 (BoxAt wc w2.heap.size 43 [.int .i64 p, .int .i64 k, .int .i8 c, .int .i8 d]) ∧ Aside0 (BoxAt wc (w2.heap.size + 1) 45 [.int .i64 v, .int .i64 u, .int .i64 g]) ∧ Aside0 (Below w.heap.size w wc))
  case first =>
    as_aux_lemma =>
      by_cases hm : (0 : Int) < m
      · have hmd : decide (0 < m) = true := decide_eq_true hm
        rw [hmd]
        have hwm : wrap64 (m - 1) = m - 1 := by have := M0.out; have := HVV.out; unfold wrap64; omega
        obtain ⟨u2, g2, S2, f1, f2, f3⟩ := R6.out hm
        have F1 := Aside0.mk f1
        have F2 := Aside0.mk f2
        have lt5 : decide (s ≤ S2) = false := decide_eq_false (by omega)
        clear f1 f2 f3 hm
        go_wp2_with (first | (refine box_load rfl 43 _ rfl w2.heap.size rfl 43 [.int .i64 p, .int .i64 k, .int .i8 c, .int .i8 d] HBD_9.out _ Try.underlying43 rfl (by kernel_rfl) ?_) | (refine box_load rfl 45 _ rfl (w2.heap.size + 1) rfl 45 [.int .i64 v, .int .i64 u, .int .i64 g] HBB_9.out _ Try.underlying45 rfl (by kernel_rfl) ?_))
        refine (impl_Replenish.calls p k c d v u g (m - 1) v u2 g2 0 _ F1.out).mono ?_
        rintro e w10 ⟨rfl, hb⟩
        have HBD_10 := Aside0.mk (HBD_9.out.below hb)
        have HBB_10 := Aside0.mk (HBB_9.out.below hb)
        have HB_10 := Aside0.mk (below_step HB_9.out hb)
        clear hb HBD_9 HBB_9 HB_9
        obtain ⟨bx, hba⟩ := box_one w10 45 [.int .i64 v, .int .i64 u2, .int .i64 g2]
        have HF := Aside0.mk (bx)
        clear bx
        have HBD_11 := Aside0.mk (HBD_10.out.below hba)
        have HBB_11 := Aside0.mk (HBB_10.out.below hba)
        have HB_11 := Aside0.mk (below_step HB_10.out hba)
        clear hba HBD_10 HBB_10 HB_10
        go_wp2_with (first | (refine box_load rfl 43 _ rfl w2.heap.size rfl 43 [.int .i64 p, .int .i64 k, .int .i8 c, .int .i8 d] HBD_11.out _ Try.underlying43 rfl (by kernel_rfl) ?_) | (refine box_load rfl 45 _ rfl w10.heap.size rfl 45 [.int .i64 v, .int .i64 u2, .int .i64 g2] HF.out _ Try.underlying45 rfl (by kernel_rfl) ?_))
        refine (impl_StrengthOf.calls p k c d v u2 g2 S2 0 _ F2.out).mono ?_
        rintro e w12 ⟨rfl, hb⟩
        have HBD_12 := Aside0.mk (HBD_11.out.below hb)
        have HBB_12 := Aside0.mk (HBB_11.out.below hb)
        have HB_12 := Aside0.mk (below_step HB_11.out hb)
        clear hb HBD_11 HBB_11 HB_11
        go_wp2_with fail
        go_meet
        case rel => exact ⟨HBD_12, HBB_12, HB_12⟩
      · have hmd : decide (0 < m) = false := decide_eq_false hm
        rw [hmd]
        clear hm
        go_wp2_with fail
        go_meet
        case rel => exact ⟨HBD_9, HBB_9, HB_9⟩
  case rest =>
    as_aux_lemma =>
      clear HBD_9 HBB_9 HB_9 lt1 hw0
      obtain ⟨HBD_20, HBB_20, HB_20⟩ := hcut
      go_wp2_with fail
      refine (laws_a2At.calls _ _ l1 1 12 t _ (Kd.C_below HR1.out HB_20.out) HC1.out ET.out).mono ?_
      rintro e w21 ⟨rfl, hb⟩
      replace hb := hb.below
      have HBD_21 := Aside0.mk (HBD_20.out.below hb)
      have HBB_21 := Aside0.mk (HBB_20.out.below hb)
      have HB_21 := Aside0.mk (below_step HB_20.out hb)
      clear hb HBD_20 HBB_20 HB_20
      go_wp2_with fail
      refine (laws_a2At.calls _ _ l1 2 200 y _ (Kd.C_below HR1.out HB_21.out) HC1.out EY.out).mono ?_
      rintro e w22 ⟨rfl, hb⟩
      replace hb := hb.below
      have HBD_22 := Aside0.mk (HBD_21.out.below hb)
      have HBB_22 := Aside0.mk (HBB_21.out.below hb)
      have HB_22 := Aside0.mk (below_step HB_21.out hb)
      clear hb HBD_21 HBB_21 HB_21
      go_wp2_with (first | (refine box_load rfl 43 _ rfl w2.heap.size rfl 43 [.int .i64 p, .int .i64 k, .int .i8 c, .int .i8 d] HBD_22.out _ Try.underlying43 rfl (by kernel_rfl) ?_) | (refine box_load rfl 45 _ rfl (w2.heap.size + 1) rfl 45 [.int .i64 v, .int .i64 u, .int .i64 g] HBB_22.out _ Try.underlying45 rfl (by kernel_rfl) ?_))
      refine (impl_SheetsLeft.calls 2000000101 p k c d v u g (50 + y) t n 0 _ N2.out).mono ?_
      rintro e w23 ⟨rfl, hb⟩
      have HBD_23 := Aside0.mk (HBD_22.out.below hb)
      have HBB_23 := Aside0.mk (HBB_22.out.below hb)
      have HB_23 := Aside0.mk (below_step HB_22.out hb)
      clear hb HBD_22 HBB_22 HB_22
      go_wp2_with (first | (refine box_load rfl 43 _ rfl w2.heap.size rfl 43 [.int .i64 p, .int .i64 k, .int .i8 c, .int .i8 d] HBD_23.out _ Try.underlying43 rfl (by kernel_rfl) ?_) | (refine box_load rfl 45 _ rfl (w2.heap.size + 1) rfl 45 [.int .i64 v, .int .i64 u, .int .i64 g] HBB_23.out _ Try.underlying45 rfl (by kernel_rfl) ?_))
      refine (spec_SheetsLeft.calls 2000000101 p k c d v u g (50 + y) t n 0 _ N1.out).mono ?_
      rintro e w24 ⟨rfl, hb⟩
      have HBD_24 := Aside0.mk (HBD_23.out.below hb)
      have HBB_24 := Aside0.mk (HBB_23.out.below hb)
      have HB_24 := Aside0.mk (below_step HB_23.out hb)
      clear hb HBD_23 HBB_23 HB_23
      obtain ⟨q1, q2, q3, q4, q5⟩ := Q.out
      have lt2 := LT.out
      have y1 := HBB_24.out.cell 0 (v := .int .i64 v) rfl
      have y2 := HBB_24.out.cell 1 (v := .int .i64 u) rfl
      have y3 := HBD_24.out.cell 0 (v := .int .i64 p) rfl
      go_wp2_with fail
      refine (spec_A2Areas.calls 10 _ _ l1 A _ (Kd.C_below HR1.out HB_24.out) HC1.out EA.out).mono ?_
      rintro e w25 ⟨vA, rfl, ho, hb⟩
      have HBD_25 := Aside0.mk (HBD_24.out.below hb)
      have HBB_25 := Aside0.mk (HBB_24.out.below hb)
      have HB_25 := Aside0.mk (below_step HB_24.out hb)
      clear hb HBD_24 HBB_24 HB_24
      clear q1 q2 q3 q4 q5 lt2 y1 y2 y3
      obtain ⟨A_A, c_A, e_A⟩ := Kd.R_slice ho
      subst e_A
      have SA := Aside0.mk (Kd.R_reads' ho).2.2
      have CA := Aside0.mk (Kd.R_reads' ho).2.1
      clear ho
      go_wp2_with (first | (refine box_load rfl 43 _ rfl w2.heap.size rfl 43 [.int .i64 p, .int .i64 k, .int .i8 c, .int .i8 d] HBD_25.out _ Try.underlying43 rfl (by kernel_rfl) ?_) | (refine box_load rfl 45 _ rfl (w2.heap.size + 1) rfl 45 [.int .i64 v, .int .i64 u, .int .i64 g] HBB_25.out _ Try.underlying45 rfl (by kernel_rfl) ?_))
      refine (impl_LeastReplenished.calls p k c d v u g _ _ A t R sm cc _ SA.out CA.out Z2.out).mono ?_
      rintro e w26 ⟨vR, rfl, ho, hb⟩
      obtain ⟨A_I, c_I, e_I⟩ := Kd.R_slice ho
      subst e_I
      have SI := Aside0.mk (Kd.R_reads' ho).2.2
      have CI := Aside0.mk (Kd.R_reads' ho).2.1
      clear ho
      have SA_26 := Aside0.mk (Kd.C_below SA.out hb)
      clear SA
      have HBD_26 := Aside0.mk (HBD_25.out.below hb)
      have HBB_26 := Aside0.mk (HBB_25.out.below hb)
      have HB_26 := Aside0.mk (below_step HB_25.out hb)
      clear hb HBD_25 HBB_25 HB_25
      go_wp2_with (first | (refine box_load rfl 43 _ rfl w2.heap.size rfl 43 [.int .i64 p, .int .i64 k, .int .i8 c, .int .i8 d] HBD_26.out _ Try.underlying43 rfl (by kernel_rfl) ?_) | (refine box_load rfl 45 _ rfl (w2.heap.size + 1) rfl 45 [.int .i64 v, .int .i64 u, .int .i64 g] HBB_26.out _ Try.underlying45 rfl (by kernel_rfl) ?_))
      refine (spec_LeastReplenished.calls 200000 p k c d v u g _ _ A t R sm cc _ SA_26.out CA.out Z1.out).mono ?_
      rintro e w27 ⟨vM, rfl, ho, hb⟩
      obtain ⟨A_M, c_M, e_M⟩ := Kd.R_slice ho
      subst e_M
      have SM := Aside0.mk (Kd.R_reads' ho).2.2
      have CM := Aside0.mk (Kd.R_reads' ho).2.1
      clear ho
      have SA_27 := Aside0.mk (Kd.C_below SA_26.out hb)
      clear SA_26
      have SI_27 := Aside0.mk (Kd.C_below SI.out hb)
      clear SI
      have HBD_27 := Aside0.mk (HBD_26.out.below hb)
      have HBB_27 := Aside0.mk (HBB_26.out.below hb)
      have HB_27 := Aside0.mk (below_step HB_26.out hb)
      clear hb HBD_26 HBB_26 HB_26
      go_wp2_with (first | (refine box_load rfl 43 _ rfl w2.heap.size rfl 43 [.int .i64 p, .int .i64 k, .int .i8 c, .int .i8 d] HBD_27.out _ Try.underlying43 rfl (by kernel_rfl) ?_) | (refine box_load rfl 45 _ rfl (w2.heap.size + 1) rfl 45 [.int .i64 v, .int .i64 u, .int .i64 g] HBB_27.out _ Try.underlying45 rfl (by kernel_rfl) ?_))
      refine (impl_SheetsFrom.calls 100 p k c d v u g _ _ A t kn 0 _ SA_27.out CA.out Z4.out).mono ?_
      rintro e w28 ⟨rfl, hb⟩
      have SA_28 := Aside0.mk (Kd.C_below SA_27.out hb)
      clear SA_27
      have SI_28 := Aside0.mk (Kd.C_below SI_27.out hb)
      clear SI_27
      have SM_28 := Aside0.mk (Kd.C_below SM.out hb)
      clear SM
      have HBD_28 := Aside0.mk (HBD_27.out.below hb)
      have HBB_28 := Aside0.mk (HBB_27.out.below hb)
      have HB_28 := Aside0.mk (below_step HB_27.out hb)
      clear hb HBD_27 HBB_27 HB_27
      go_wp2_with (first | (refine box_load rfl 43 _ rfl w2.heap.size rfl 43 [.int .i64 p, .int .i64 k, .int .i8 c, .int .i8 d] HBD_28.out _ Try.underlying43 rfl (by kernel_rfl) ?_) | (refine box_load rfl 45 _ rfl (w2.heap.size + 1) rfl 45 [.int .i64 v, .int .i64 u, .int .i64 g] HBB_28.out _ Try.underlying45 rfl (by kernel_rfl) ?_))
      refine (spec_SheetsFrom.calls 100 p k c d v u g _ _ A t kn 0 _ SA_28.out CA.out Z3.out).mono ?_
      rintro e w29 ⟨rfl, hb⟩
      have SA_29 := Aside0.mk (Kd.C_below SA_28.out hb)
      clear SA_28
      have SI_29 := Aside0.mk (Kd.C_below SI_28.out hb)
      clear SI_28
      have SM_29 := Aside0.mk (Kd.C_below SM_28.out hb)
      clear SM_28
      have HBD_29 := Aside0.mk (HBD_28.out.below hb)
      have HBB_29 := Aside0.mk (HBB_28.out.below hb)
      have HB_29 := Aside0.mk (below_step HB_28.out hb)
      clear hb HBD_28 HBB_28 HB_28
      go_wp2_with fail
      refine (spec_A2Same.calls 200 _ _ R _ _ R true _ SI_29.out CI.out SM_29.out CM.out HSA.out).mono ?_
      rintro e w30 ⟨rfl, hb⟩
      replace hb := hb.below
      have SA_30 := Aside0.mk (Kd.C_below SA_29.out hb)
      clear SA_29
      have SM_30 := Aside0.mk (Kd.C_below SM_29.out hb)
      clear SM_29
      have HBD_30 := Aside0.mk (HBD_29.out.below hb)
      have HBB_30 := Aside0.mk (HBB_29.out.below hb)
      have HB_30 := Aside0.mk (below_step HB_29.out hb)
      clear hb HBD_29 HBB_29 HB_29
      clear SI_29 CI
      by_cases hcc : cc = 0
      · subst hcc
        have hV := HV.out
        have hvv := HVV.out
        have hal := HAL.out
        obtain ⟨R', er, hR1, hR2, hR3⟩ := L_lrepTail p k c d t v A [] 0 u g hV (by omega) (by omega) (by rw [← HRR.out])
        rw [← HRR.out, List.nil_append, Int.zero_add] at er
        obtain ⟨rfl, er2⟩ := Prod.mk.inj er
        obtain ⟨hsum, _⟩ := Prod.mk.inj er2
        obtain ⟨hk1, hk2, hk3⟩ := L_lrKnown p k t v A R u g hV hR2
        rw [← HKN.out] at hk1 hk3
        have HRL := Aside0.mk hR1
        have HOK := Aside0.mk hR2
        have HK1 := Aside0.mk hk1
        have HSUM := Aside0.mk hsum
        have HR3 := Aside0.mk hR3
        have HSB := Aside0.mk (show 0 ≤ R.sum ∧ R.sum ≤ 8000 from ⟨hk2, by have := L_sumLe R v hR3; rw [hR1] at this; have h4 := Int.mul_le_mul (show (A.length : Int) ≤ 4 by omega) hvv.2 (by omega) (by omega); omega⟩)
        have e1 : (R.length : Int) = (A.length : Int) := by omega
        have e2 : (kn == (A.length : Int)) = (sm == 0) := by rw [hsum]; exact Bool.eq_iff_iff.mpr (by simpa using hk3)
        clear hk1 hk2 hk3 hR1 hR2 hR3 er er2 hsum hV hvv hal
        obtain ⟨bx, hba⟩ := box_one w30 45 [.int .i64 v, .int .i64 u, .int .i64 g]
        have HNOW := Aside0.mk bx
        have HBN := Aside0.mk hba
        clear bx hba
        go_wp2_with (first | (refine box_load rfl 45 _ rfl (w2.heap.size + 1) rfl 45 [.int .i64 v, .int .i64 u, .int .i64 g] HBB_30.out _ Try.underlying45 rfl (by kernel_rfl) ?_))
        go_loopg [38, 39] A.length (fun kq v38 v39 w' => ∃ (i own u_ g_ : Int) (W : World), W = w' ∧ v38 = .int .i64 own ∧ v39 = .int .i64 i ∧ Aside0 (0 ≤ i ∧ i + kq = A.length) ∧ Aside0 (own + (R.drop i.toNat).sum = sm ∧ 0 ≤ own ∧ own ≤ 8000) ∧ Aside0 (D_vol p v u_ g_) ∧ Aside0 (D_lrOk p k t v (A.drop i.toNat) (R.drop i.toNat) u_ g_) ∧ Aside0 (BoxAt W w30.heap.size 45 [.int .i64 v, .int .i64 u_, .int .i64 g_]) ∧ Aside0 (Below w30.heap.size w30 W))
        case atStart => exact ⟨0, 0, u, g, _, rfl, rfl, rfl, ⟨by omega⟩, ⟨by have := HSUM.out; simp; omega⟩, HV, HOK, HNOW, HBN⟩
        case round =>
          as_aux_lemma =>
            clear HNOW HBN e1 e2
            obtain ⟨i, own, u_, g_, W, rfl, rfl, rfl, HI, HOWN, HVI, HOKI, HNOW, HBN⟩ := hrel
            cases gk with
            | succ k1 =>
              have h0 : 0 ≤ i := HI.out.1
              have hi : i < (A.length : Int) := by have := HI.out.2; omega
              have hdec : decide (i < (A.length : Int)) = true := decide_eq_true hi
              have hwi : wrap64 (i + 1) = i + 1 := by have := HAL.out; unfold wrap64; omega
              obtain ⟨hiR, x0_, x1_, hF, hOK2, hsm⟩ := L_lrStep h0 hi HOKI.out
              obtain ⟨x, hx⟩ : ∃ x, x = rd R i := ⟨_, rfl⟩
              obtain ⟨a, ha⟩ : ∃ a, a = rd A i := ⟨_, rfl⟩
              rw [← hx] at x0_ x1_ hF hOK2 hsm
              rw [← ha] at hF hOK2
              have hab : 1 ≤ a ∧ a ≤ 200 := by obtain ⟨hlt, ea⟩ := L_rdGet (l := A) (i := i) h0 hi; rw [ha, ea]; exact HA2.out _ (List.getElem_mem hlt)
              obtain ⟨S, K, f1, f2, f3, f4, f5, hV2⟩ := L_lrRound (k := k) (c := c) (d := d) HD.out HVI.out hab (by have := BT.out; omega) ⟨x0_, x1_⟩ hF
              obtain ⟨uf, huf⟩ : ∃ q, q = u_ * (v - x) / v := ⟨_, rfl⟩
              obtain ⟨gf, hgf⟩ : ∃ q, q = g_ * (v - x) / v := ⟨_, rfl⟩
              rw [← huf, ← hgf] at f1 f2 f5 hV2 hOK2
              have F1 := Aside0.mk (f1)
              have F2 := Aside0.mk (f2)
              have F3 := Aside0.mk (f3)
              have F5 := Aside0.mk (f5)
              have HV2 := Aside0.mk (hV2)
              have HOK2 := Aside0.mk (hOK2)
              have HSM := Aside0.mk (hsm)
              have HXB := Aside0.mk (show 0 ≤ x ∧ x ≤ v from ⟨x0_, x1_⟩)
              have ltk : decide (t < K) = false := decide_eq_false (by omega)
              have cM : ∃ ad, A_M = some ad ∧ w30.cell? (ad.add i.toNat) = some (.int .i64 x) := by rw [hx]; exact (fun z => by obtain ⟨ad, e, h⟩ := z; exact ⟨ad, e, h⟩) (Kd.at_int SM_30.out i h0 hiR)
              have cA : ∃ ad, A_A = some ad ∧ w30.cell? (ad.add i.toNat) = some (.int .i64 a) := by rw [ha]; exact (fun z => by obtain ⟨ad, e, h⟩ := z; exact ⟨ad, e, h⟩) (Kd.at_int SA_30.out i h0 hi)
              obtain ⟨adM, rfl, hcM⟩ := cM
              obtain ⟨adA, rfl, hcA⟩ := cA
              have HCM := Aside0.mk hcM
              have HCA := Aside0.mk hcA
              have hkk := HK1.out i.toNat (by omega)
              rw [show R.getD i.toNat 0 = x from hx.symm, show ((i.toNat : Nat) : Int) = i by omega] at hkk
              have HKK := Aside0.mk hkk
              have p0 := eq_true h0
              have pA := eq_true hi
              have pM := eq_true hiR
              clear f1 f2 f3 f4 f5 hV2 hOK2 hsm x0_ x1_ hF hab hcM hcA hkk HOKI HVI hx ha huf hgf h0 hi hiR
              go_upto_region 38 with fail
              go_cut [40, 41] (fun va vb wc => ∃ gx : Nat, va = .pointer (some ⟨gx, 0, none⟩) ∧ vb = .int .i64 0 ∧ Aside0 (BoxAt wc gx 45 [.int .i64 v, .int .i64 uf, .int .i64 gf]) ∧ Aside0 (BoxAt wc w30.heap.size 45 [.int .i64 v, .int .i64 u_, .int .i64 g_]) ∧ Aside0 (Below w30.heap.size w30 wc))
              case first =>
                as_aux_lemma =>
                  refine region_any (S := fun w' => BoxAt w' w30.heap.size 45 [.int .i64 v, .int .i64 u_, .int .i64 g_] ∧ Below w30.heap.size w30 w') (by kernel_rfl) ⟨BoxAt.drew HNOW.out, below_drew1 HBN.out⟩ (fun V0 hHeld => ?_)
                  clear HNOW HBN
                  refine wpAnyH_take (i := 0) (v := .agg ([.int .i64 p, .int .i64 k, .int .i8 c, .int .i8 d] : List Value).toArray) rfl (by kernel_rfl) (by kernel_rfl) (by kernel_rfl) (fun _ _ _ h => h) (yieldsIf_load_mid (by rfl) _ _ rfl _ _ rfl _ _ (fun w' h => BoxAt.range (HBD_30.out.below h.2)) Try.underlying43 rfl (by kernel_rfl)) (by assumption) ?_
                  try simp only [List.getElem_toArray, List.getElem_cons_succ, List.getElem_cons_zero, Act.put, List.setIfInBounds_toArray, List.set_cons_zero, List.set_cons_succ]
                  refine wpAnyH_take (i := 1) (v := .agg ([.int .i64 v, .int .i64 u_, .int .i64 g_] : List Value).toArray) rfl (by kernel_rfl) (by kernel_rfl) (by kernel_rfl) (fun _ _ _ h => h) (yieldsIf_load_mid (by rfl) _ _ rfl _ _ rfl _ _ (fun w' h => BoxAt.range h.1) Try.underlying45 rfl (by kernel_rfl)) (by assumption) ?_
                  try simp only [List.getElem_toArray, List.getElem_cons_succ, List.getElem_cons_zero, Act.put, List.setIfInBounds_toArray, List.set_cons_zero, List.set_cons_succ]
                  refine wpAnyH_take (i := 2) (v := ?_) rfl (by kernel_rfl) (by kernel_rfl) (by kernel_rfl) (fun _ _ _ h => h) (Or.inl ⟨by rfl, ?_⟩) (by assumption) ?_
                  rotate_left
                  · intro w hSw
                    go_simp
                    with_reducible rfl
                  try simp only [List.getElem_toArray, List.getElem_cons_succ, List.getElem_cons_zero, Act.put, List.setIfInBounds_toArray, List.set_cons_zero, List.set_cons_succ]
                  refine wpAnyH_take (i := 3) (v := ?_) rfl (by kernel_rfl) (by kernel_rfl) (by kernel_rfl) (fun _ _ _ h => h) (Or.inl ⟨by rfl, ?_⟩) (by assumption) ?_
                  rotate_left
                  · intro w hSw
                    go_simp
                    with_reducible rfl
                  try simp only [List.getElem_toArray, List.getElem_cons_succ, List.getElem_cons_zero, Act.put, List.setIfInBounds_toArray, List.set_cons_zero, List.set_cons_succ]
                  refine wpAnyH_take (i := 4) (v := ?_) rfl (by kernel_rfl) (by kernel_rfl) (by kernel_rfl) (fun _ _ _ h => h) (Or.inl ⟨by rfl, ?_⟩) (by assumption) ?_
                  rotate_left
                  · intro w hSw
                    go_simp
                    with_reducible rfl
                  try simp only [List.getElem_toArray, List.getElem_cons_succ, List.getElem_cons_zero, Act.put, List.setIfInBounds_toArray, List.set_cons_zero, List.set_cons_succ]
                  refine wpAnyH_take (i := 5) (v := ?_) rfl (by kernel_rfl) (by kernel_rfl) (by kernel_rfl) (fun _ _ _ h => h) (Or.inl ⟨by rfl, ?_⟩) (by assumption) ?_
                  rotate_left
                  · intro w' hSw
                    have hcell := cell_stays hSw.2 HCM.out
                    go_simp
                    with_reducible rfl
                  try simp only [List.getElem_toArray, List.getElem_cons_succ, List.getElem_cons_zero, Act.put, List.setIfInBounds_toArray, List.set_cons_zero, List.set_cons_succ]
                  refine wpAnyH_ready (rs := [6, 10]) (by kernel_rfl) (by simp) ?_
                  refine AllReadyH.cons rfl (fun K hK => ?_) (AllReadyH.cons rfl (fun K hK => ?_) AllReadyH.nil)
                  · skip
                    obtain ⟨q1, q2⟩ := hHeld
                    go_simp
                    refine (spec_Replenish.calls p k c d v u_ g_ x v uf gf 0 _ F1.out).mono ?_
                    rintro e V1 ⟨rfl, hb⟩
                    go_wp2_with fail
                    refine hK.out _ _ ⟨q1.below hb, below_step q2 hb⟩ (fun hHeld => ?_)
                    clear hK K hb q1 q2
                    try simp only [List.getElem_toArray, List.getElem_cons_succ, List.getElem_cons_zero, Act.put, List.setIfInBounds_toArray, List.set_cons_zero, List.set_cons_succ]
                    refine wpAnyH_take (i := 7) (v := ?_) rfl (by kernel_rfl) (by kernel_rfl) (by kernel_rfl) (fun _ _ _ h => h) (Or.inl ⟨by rfl, ?_⟩) (by assumption) ?_
                    rotate_left
                    · intro w hSw
                      go_simp
                      with_reducible rfl
                    try simp only [List.getElem_toArray, List.getElem_cons_succ, List.getElem_cons_zero, Act.put, List.setIfInBounds_toArray, List.set_cons_zero, List.set_cons_succ]
                    refine wpAnyH_take (i := 8) (v := ?_) rfl (by kernel_rfl) (by kernel_rfl) (by kernel_rfl) (fun _ _ _ h => h) (Or.inl ⟨by rfl, ?_⟩) (by assumption) ?_
                    rotate_left
                    · intro w hSw
                      go_simp
                      with_reducible rfl
                    try simp only [List.getElem_toArray, List.getElem_cons_succ, List.getElem_cons_zero, Act.put, List.setIfInBounds_toArray, List.set_cons_zero, List.set_cons_succ]
                    refine wpAnyH_take (i := 9) (v := ?_) rfl (by kernel_rfl) (by kernel_rfl) (by kernel_rfl) (fun _ _ _ h => h) (Or.inl ⟨by rfl, ?_⟩) (by assumption) ?_
                    rotate_left
                    · intro w hSw
                      go_simp
                      with_reducible rfl
                    try simp only [List.getElem_toArray, List.getElem_cons_succ, List.getElem_cons_zero, Act.put, List.setIfInBounds_toArray, List.set_cons_zero, List.set_cons_succ]
                    refine wpAnyH_ready (rs := [10]) (by kernel_rfl) (by simp) ?_
                    refine AllReadyH.cons rfl (fun K hK => ?_) AllReadyH.nil
                    obtain ⟨q1, q2⟩ := hHeld
                    go_simp
                    have NW := Aside0.mk (BoxAt.new V1 45 [.int .i64 0, .int .i64 0, .int .i64 0])
                    have hb := (Below.refl V1.heap.size V1).alloc (Nat.le_refl _) (.cells ([.int .i64 0, .int .i64 0, .int .i64 0] : List Value).toArray 45)
                    have HGN := Aside0.mk (show w30.heap.size ≤ V1.heap.size ∧ w30.heap.size < V1.heap.size from ⟨Below.size q2, q1.lt⟩)
                    refine hK.out _ _ ⟨q1.below hb, below_step q2 hb⟩ (fun hHeld => ?_)
                    clear hK K hb q1 q2
                    try simp only [List.getElem_toArray, List.getElem_cons_succ, List.getElem_cons_zero, Act.put, List.setIfInBounds_toArray, List.set_cons_zero, List.set_cons_succ]
                    refine wpAnyH_ready (rs := [11]) (by kernel_rfl) (by simp) ?_
                    refine AllReadyH.cons rfl (fun K hK => ?_) AllReadyH.nil
                    obtain ⟨q1, q2⟩ := hHeld
                    rw [if_pos (by rfl)]
                    refine box_wp_store 45 _ _ rfl V1.heap.size [.int .i64 v, .int .i64 uf, .int .i64 gf] rfl rfl 45 [.int .i64 0, .int .i64 0, .int .i64 0] NW.out (by kernel_rfl) rfl (by rfl) ?_
                    have hn := HGN.out
                    have NS := Aside0.mk (NW.out.row [.int .i64 v, .int .i64 uf, .int .i64 gf])
                    refine hK.out _ _ ⟨q1.rowOther (by omega) _, below_row q2 (by omega) _⟩ (fun hHeld => ?_)
                    clear hK K q1 q2 hn
                    try simp only [List.getElem_toArray, List.getElem_cons_succ, List.getElem_cons_zero, Act.put, List.setIfInBounds_toArray, List.set_cons_zero, List.set_cons_succ]
                    refine wpAnyH_take (i := 12) (v := ?_) rfl (by kernel_rfl) (by kernel_rfl) (by kernel_rfl) (fun _ _ _ h => h) (Or.inl ⟨by rfl, ?_⟩) (by assumption) ?_
                    rotate_left
                    · intro w hSw
                      go_simp
                      with_reducible rfl
                    try simp only [List.getElem_toArray, List.getElem_cons_succ, List.getElem_cons_zero, Act.put, List.setIfInBounds_toArray, List.set_cons_zero, List.set_cons_succ]
                    refine wpAnyH_done (by kernel_rfl) ?_ _
                    obtain ⟨q1, q2⟩ := hHeld
                    have Qq1 := Aside0.mk q1
                    have Qq2 := Aside0.mk q2
                    clear q1 q2
                    go_wp2_with fail
                    go_meet
                    case rel => exact ⟨_, rfl, rfl, NS, Qq1, Qq2⟩
                  · skip
                    obtain ⟨q1, q2⟩ := hHeld
                    go_simp
                    have NW := Aside0.mk (BoxAt.new V0 45 [.int .i64 0, .int .i64 0, .int .i64 0])
                    have hb := (Below.refl V0.heap.size V0).alloc (Nat.le_refl _) (.cells ([.int .i64 0, .int .i64 0, .int .i64 0] : List Value).toArray 45)
                    have HGN := Aside0.mk (show w30.heap.size ≤ V0.heap.size ∧ w30.heap.size < V0.heap.size from ⟨Below.size q2, q1.lt⟩)
                    refine hK.out _ _ ⟨q1.below hb, below_step q2 hb⟩ (fun hHeld => ?_)
                    clear hK K hb q1 q2
                    try simp only [List.getElem_toArray, List.getElem_cons_succ, List.getElem_cons_zero, Act.put, List.setIfInBounds_toArray, List.set_cons_zero, List.set_cons_succ]
                    refine wpAnyH_ready (rs := [6]) (by kernel_rfl) (by simp) ?_
                    refine AllReadyH.cons rfl (fun K hK => ?_) AllReadyH.nil
                    obtain ⟨q1, q2⟩ := hHeld
                    go_simp
                    refine (spec_Replenish.calls p k c d v u_ g_ x v uf gf 0 _ F1.out).mono ?_
                    rintro e V2 ⟨rfl, hb⟩
                    go_wp2_with fail
                    have NW' := Aside0.mk (NW.out.below hb)
                    clear NW
                    refine hK.out _ _ ⟨q1.below hb, below_step q2 hb⟩ (fun hHeld => ?_)
                    clear hK K hb q1 q2
                    try simp only [List.getElem_toArray, List.getElem_cons_succ, List.getElem_cons_zero, Act.put, List.setIfInBounds_toArray, List.set_cons_zero, List.set_cons_succ]
                    refine wpAnyH_take (i := 7) (v := ?_) rfl (by kernel_rfl) (by kernel_rfl) (by kernel_rfl) (fun _ _ _ h => h) (Or.inl ⟨by rfl, ?_⟩) (by assumption) ?_
                    rotate_left
                    · intro w hSw
                      go_simp
                      with_reducible rfl
                    try simp only [List.getElem_toArray, List.getElem_cons_succ, List.getElem_cons_zero, Act.put, List.setIfInBounds_toArray, List.set_cons_zero, List.set_cons_succ]
                    refine wpAnyH_take (i := 8) (v := ?_) rfl (by kernel_rfl) (by kernel_rfl) (by kernel_rfl) (fun _ _ _ h => h) (Or.inl ⟨by rfl, ?_⟩) (by assumption) ?_
                    rotate_left
                    · intro w hSw
                      go_simp
                      with_reducible rfl
                    try simp only [List.getElem_toArray, List.getElem_cons_succ, List.getElem_cons_zero, Act.put, List.setIfInBounds_toArray, List.set_cons_zero, List.set_cons_succ]
                    refine wpAnyH_take (i := 9) (v := ?_) rfl (by kernel_rfl) (by kernel_rfl) (by kernel_rfl) (fun _ _ _ h => h) (Or.inl ⟨by rfl, ?_⟩) (by assumption) ?_
                    rotate_left
                    · intro w hSw
                      go_simp
                      with_reducible rfl
                    try simp only [List.getElem_toArray, List.getElem_cons_succ, List.getElem_cons_zero, Act.put, List.setIfInBounds_toArray, List.set_cons_zero, List.set_cons_succ]
                    refine wpAnyH_ready (rs := [11]) (by kernel_rfl) (by simp) ?_
                    refine AllReadyH.cons rfl (fun K hK => ?_) AllReadyH.nil
                    obtain ⟨q1, q2⟩ := hHeld
                    rw [if_pos (by rfl)]
                    refine box_wp_store 45 _ _ rfl V0.heap.size [.int .i64 v, .int .i64 uf, .int .i64 gf] rfl rfl 45 [.int .i64 0, .int .i64 0, .int .i64 0] NW'.out (by kernel_rfl) rfl (by rfl) ?_
                    have hn := HGN.out
                    have NS := Aside0.mk (NW'.out.row [.int .i64 v, .int .i64 uf, .int .i64 gf])
                    refine hK.out _ _ ⟨q1.rowOther (by omega) _, below_row q2 (by omega) _⟩ (fun hHeld => ?_)
                    clear hK K q1 q2 hn
                    try simp only [List.getElem_toArray, List.getElem_cons_succ, List.getElem_cons_zero, Act.put, List.setIfInBounds_toArray, List.set_cons_zero, List.set_cons_succ]
                    refine wpAnyH_take (i := 12) (v := ?_) rfl (by kernel_rfl) (by kernel_rfl) (by kernel_rfl) (fun _ _ _ h => h) (Or.inl ⟨by rfl, ?_⟩) (by assumption) ?_
                    rotate_left
                    · intro w hSw
                      go_simp
                      with_reducible rfl
                    try simp only [List.getElem_toArray, List.getElem_cons_succ, List.getElem_cons_zero, Act.put, List.setIfInBounds_toArray, List.set_cons_zero, List.set_cons_succ]
                    refine wpAnyH_done (by kernel_rfl) ?_ _
                    obtain ⟨q1, q2⟩ := hHeld
                    have Qq1 := Aside0.mk q1
                    have Qq2 := Aside0.mk q2
                    clear q1 q2
                    go_wp2_with fail
                    go_meet
                    case rel => exact ⟨_, rfl, rfl, NS, Qq1, Qq2⟩
              case rest =>
                as_aux_lemma =>
                  clear HNOW HBN
                  obtain ⟨gF, rfl, rfl, HF, HNOW, HBN⟩ := hcut
                  go_wp2_with (first | (refine box_load rfl 43 _ rfl w2.heap.size rfl 43 [.int .i64 p, .int .i64 k, .int .i8 c, .int .i8 d] (HBD_30.out.below HBN.out) _ Try.underlying43 rfl (by kernel_rfl) ?_) | (refine box_load rfl 45 _ rfl gF rfl 45 [.int .i64 v, .int .i64 uf, .int .i64 gf] HF.out _ Try.underlying45 rfl (by kernel_rfl) ?_))
                  refine (spec_StrengthOf.calls p k c d v uf gf S 0 _ F2.out).mono ?_
                  rintro e w31 ⟨rfl, hb⟩
                  have HF' := Aside0.mk (HF.out.below hb)
                  have HNOW' := Aside0.mk (HNOW.out.below hb)
                  have HBN' := Aside0.mk (below_step HBN.out hb)
                  clear hb HF HNOW HBN
                  have HF := HF'
                  have HNOW := HNOW'
                  have HBN := HBN'
                  clear HF' HNOW' HBN'
                  go_wp2_with fail
                  refine (impl_SlowerBy.calls 60 S K 0 _ F3.out).mono ?_
                  rintro e w32 ⟨rfl, hb⟩
                  replace hb := hb.below
                  have HF' := Aside0.mk (HF.out.below hb)
                  have HNOW' := Aside0.mk (HNOW.out.below hb)
                  have HBN' := Aside0.mk (below_step HBN.out hb)
                  clear hb HF HNOW HBN
                  have HF := HF'
                  have HNOW := HNOW'
                  have HBN := HBN'
                  clear HF' HNOW' HBN'
                  go_upto_region 41 with fail
                  go_cut [46, 47] (fun va vb wc => ∃ gx : Nat, va = .pointer (some ⟨gx, 0, none⟩) ∧ vb = .int .i64 0 ∧ Aside0 (BoxAt wc gx 45 [.int .i64 v, .int .i64 (uf + a), .int .i64 gf]) ∧ Aside0 (BoxAt wc gF 45 [.int .i64 v, .int .i64 uf, .int .i64 gf]) ∧ Aside0 (BoxAt wc w30.heap.size 45 [.int .i64 v, .int .i64 u_, .int .i64 g_]) ∧ Aside0 (Below w30.heap.size w30 wc))
                  case first =>
                    as_aux_lemma =>
                      refine region_any (S := fun w' => BoxAt w' gF 45 [.int .i64 v, .int .i64 uf, .int .i64 gf] ∧ BoxAt w' w30.heap.size 45 [.int .i64 v, .int .i64 u_, .int .i64 g_] ∧ Below w30.heap.size w30 w') (by kernel_rfl) ⟨BoxAt.drew HF.out, BoxAt.drew HNOW.out, below_drew1 HBN.out⟩ (fun V0 hHeld => ?_)
                      clear HF HNOW HBN
                      refine wpAnyH_take (i := 0) (v := .agg ([.int .i64 p, .int .i64 k, .int .i8 c, .int .i8 d] : List Value).toArray) rfl (by kernel_rfl) (by kernel_rfl) (by kernel_rfl) (fun _ _ _ h => h) (yieldsIf_load_mid (by rfl) _ _ rfl _ _ rfl _ _ (fun w' h => BoxAt.range (HBD_30.out.below h.2.2)) Try.underlying43 rfl (by kernel_rfl)) (by assumption) ?_
                      try simp only [List.getElem_toArray, List.getElem_cons_succ, List.getElem_cons_zero, Act.put, List.setIfInBounds_toArray, List.set_cons_zero, List.set_cons_succ]
                      refine wpAnyH_take (i := 1) (v := .agg ([.int .i64 v, .int .i64 uf, .int .i64 gf] : List Value).toArray) rfl (by kernel_rfl) (by kernel_rfl) (by kernel_rfl) (fun _ _ _ h => h) (yieldsIf_load_mid (by rfl) _ _ rfl _ _ rfl _ _ (fun w' h => BoxAt.range h.1) Try.underlying45 rfl (by kernel_rfl)) (by assumption) ?_
                      try simp only [List.getElem_toArray, List.getElem_cons_succ, List.getElem_cons_zero, Act.put, List.setIfInBounds_toArray, List.set_cons_zero, List.set_cons_succ]
                      refine wpAnyH_take (i := 2) (v := ?_) rfl (by kernel_rfl) (by kernel_rfl) (by kernel_rfl) (fun _ _ _ h => h) (Or.inl ⟨by rfl, ?_⟩) (by assumption) ?_
                      rotate_left
                      · intro w hSw
                        go_simp
                        with_reducible rfl
                      try simp only [List.getElem_toArray, List.getElem_cons_succ, List.getElem_cons_zero, Act.put, List.setIfInBounds_toArray, List.set_cons_zero, List.set_cons_succ]
                      refine wpAnyH_take (i := 3) (v := ?_) rfl (by kernel_rfl) (by kernel_rfl) (by kernel_rfl) (fun _ _ _ h => h) (Or.inl ⟨by rfl, ?_⟩) (by assumption) ?_
                      rotate_left
                      · intro w hSw
                        go_simp
                        with_reducible rfl
                      try simp only [List.getElem_toArray, List.getElem_cons_succ, List.getElem_cons_zero, Act.put, List.setIfInBounds_toArray, List.set_cons_zero, List.set_cons_succ]
                      refine wpAnyH_take (i := 4) (v := ?_) rfl (by kernel_rfl) (by kernel_rfl) (by kernel_rfl) (fun _ _ _ h => h) (Or.inl ⟨by rfl, ?_⟩) (by assumption) ?_
                      rotate_left
                      · intro w hSw
                        go_simp
                        with_reducible rfl
                      try simp only [List.getElem_toArray, List.getElem_cons_succ, List.getElem_cons_zero, Act.put, List.setIfInBounds_toArray, List.set_cons_zero, List.set_cons_succ]
                      refine wpAnyH_take (i := 5) (v := ?_) rfl (by kernel_rfl) (by kernel_rfl) (by kernel_rfl) (fun _ _ _ h => h) (Or.inl ⟨by rfl, ?_⟩) (by assumption) ?_
                      rotate_left
                      · intro w' hSw
                        have hcell := cell_stays hSw.2.2 HCA.out
                        go_simp
                        with_reducible rfl
                      try simp only [List.getElem_toArray, List.getElem_cons_succ, List.getElem_cons_zero, Act.put, List.setIfInBounds_toArray, List.set_cons_zero, List.set_cons_succ]
                      refine wpAnyH_ready (rs := [6, 10]) (by kernel_rfl) (by simp) ?_
                      refine AllReadyH.cons rfl (fun K hK => ?_) (AllReadyH.cons rfl (fun K hK => ?_) AllReadyH.nil)
                      · skip
                        obtain ⟨q1, q2, q3⟩ := hHeld
                        go_simp
                        refine (impl_DevelopSheet.calls 60 p k c d v uf gf a v (uf + a) gf 0 _ F5.out).mono ?_
                        rintro e V1 ⟨rfl, hb⟩
                        go_wp2_with fail
                        refine hK.out _ _ ⟨q1.below hb, q2.below hb, below_step q3 hb⟩ (fun hHeld => ?_)
                        clear hK K hb q1 q2 q3
                        try simp only [List.getElem_toArray, List.getElem_cons_succ, List.getElem_cons_zero, Act.put, List.setIfInBounds_toArray, List.set_cons_zero, List.set_cons_succ]
                        refine wpAnyH_take (i := 7) (v := ?_) rfl (by kernel_rfl) (by kernel_rfl) (by kernel_rfl) (fun _ _ _ h => h) (Or.inl ⟨by rfl, ?_⟩) (by assumption) ?_
                        rotate_left
                        · intro w hSw
                          go_simp
                          with_reducible rfl
                        try simp only [List.getElem_toArray, List.getElem_cons_succ, List.getElem_cons_zero, Act.put, List.setIfInBounds_toArray, List.set_cons_zero, List.set_cons_succ]
                        refine wpAnyH_take (i := 8) (v := ?_) rfl (by kernel_rfl) (by kernel_rfl) (by kernel_rfl) (fun _ _ _ h => h) (Or.inl ⟨by rfl, ?_⟩) (by assumption) ?_
                        rotate_left
                        · intro w hSw
                          go_simp
                          with_reducible rfl
                        try simp only [List.getElem_toArray, List.getElem_cons_succ, List.getElem_cons_zero, Act.put, List.setIfInBounds_toArray, List.set_cons_zero, List.set_cons_succ]
                        refine wpAnyH_take (i := 9) (v := ?_) rfl (by kernel_rfl) (by kernel_rfl) (by kernel_rfl) (fun _ _ _ h => h) (Or.inl ⟨by rfl, ?_⟩) (by assumption) ?_
                        rotate_left
                        · intro w hSw
                          go_simp
                          with_reducible rfl
                        try simp only [List.getElem_toArray, List.getElem_cons_succ, List.getElem_cons_zero, Act.put, List.setIfInBounds_toArray, List.set_cons_zero, List.set_cons_succ]
                        refine wpAnyH_ready (rs := [10]) (by kernel_rfl) (by simp) ?_
                        refine AllReadyH.cons rfl (fun K hK => ?_) AllReadyH.nil
                        obtain ⟨q1, q2, q3⟩ := hHeld
                        go_simp
                        have NW := Aside0.mk (BoxAt.new V1 45 [.int .i64 0, .int .i64 0, .int .i64 0])
                        have hb := (Below.refl V1.heap.size V1).alloc (Nat.le_refl _) (.cells ([.int .i64 0, .int .i64 0, .int .i64 0] : List Value).toArray 45)
                        have HGN := Aside0.mk (show w30.heap.size ≤ V1.heap.size ∧ gF < V1.heap.size ∧ w30.heap.size < V1.heap.size from ⟨Below.size q3, q1.lt, q2.lt⟩)
                        refine hK.out _ _ ⟨q1.below hb, q2.below hb, below_step q3 hb⟩ (fun hHeld => ?_)
                        clear hK K hb q1 q2 q3
                        try simp only [List.getElem_toArray, List.getElem_cons_succ, List.getElem_cons_zero, Act.put, List.setIfInBounds_toArray, List.set_cons_zero, List.set_cons_succ]
                        refine wpAnyH_ready (rs := [11]) (by kernel_rfl) (by simp) ?_
                        refine AllReadyH.cons rfl (fun K hK => ?_) AllReadyH.nil
                        obtain ⟨q1, q2, q3⟩ := hHeld
                        rw [if_pos (by rfl)]
                        refine box_wp_store 45 _ _ rfl V1.heap.size [.int .i64 v, .int .i64 (uf + a), .int .i64 gf] rfl rfl 45 [.int .i64 0, .int .i64 0, .int .i64 0] NW.out (by kernel_rfl) rfl (by rfl) ?_
                        have hn := HGN.out
                        have NS := Aside0.mk (NW.out.row [.int .i64 v, .int .i64 (uf + a), .int .i64 gf])
                        refine hK.out _ _ ⟨q1.rowOther (by omega) _, q2.rowOther (by omega) _, below_row q3 (by omega) _⟩ (fun hHeld => ?_)
                        clear hK K q1 q2 q3 hn
                        try simp only [List.getElem_toArray, List.getElem_cons_succ, List.getElem_cons_zero, Act.put, List.setIfInBounds_toArray, List.set_cons_zero, List.set_cons_succ]
                        refine wpAnyH_take (i := 12) (v := ?_) rfl (by kernel_rfl) (by kernel_rfl) (by kernel_rfl) (fun _ _ _ h => h) (Or.inl ⟨by rfl, ?_⟩) (by assumption) ?_
                        rotate_left
                        · intro w hSw
                          go_simp
                          with_reducible rfl
                        try simp only [List.getElem_toArray, List.getElem_cons_succ, List.getElem_cons_zero, Act.put, List.setIfInBounds_toArray, List.set_cons_zero, List.set_cons_succ]
                        refine wpAnyH_done (by kernel_rfl) ?_ _
                        obtain ⟨q1, q2, q3⟩ := hHeld
                        have Qq1 := Aside0.mk q1
                        have Qq2 := Aside0.mk q2
                        have Qq3 := Aside0.mk q3
                        clear q1 q2 q3
                        go_wp2_with fail
                        go_meet
                        case rel => exact ⟨_, rfl, rfl, NS, Qq1, Qq2, Qq3⟩
                      · skip
                        obtain ⟨q1, q2, q3⟩ := hHeld
                        go_simp
                        have NW := Aside0.mk (BoxAt.new V0 45 [.int .i64 0, .int .i64 0, .int .i64 0])
                        have hb := (Below.refl V0.heap.size V0).alloc (Nat.le_refl _) (.cells ([.int .i64 0, .int .i64 0, .int .i64 0] : List Value).toArray 45)
                        have HGN := Aside0.mk (show w30.heap.size ≤ V0.heap.size ∧ gF < V0.heap.size ∧ w30.heap.size < V0.heap.size from ⟨Below.size q3, q1.lt, q2.lt⟩)
                        refine hK.out _ _ ⟨q1.below hb, q2.below hb, below_step q3 hb⟩ (fun hHeld => ?_)
                        clear hK K hb q1 q2 q3
                        try simp only [List.getElem_toArray, List.getElem_cons_succ, List.getElem_cons_zero, Act.put, List.setIfInBounds_toArray, List.set_cons_zero, List.set_cons_succ]
                        refine wpAnyH_ready (rs := [6]) (by kernel_rfl) (by simp) ?_
                        refine AllReadyH.cons rfl (fun K hK => ?_) AllReadyH.nil
                        obtain ⟨q1, q2, q3⟩ := hHeld
                        go_simp
                        refine (impl_DevelopSheet.calls 60 p k c d v uf gf a v (uf + a) gf 0 _ F5.out).mono ?_
                        rintro e V2 ⟨rfl, hb⟩
                        go_wp2_with fail
                        have NW' := Aside0.mk (NW.out.below hb)
                        clear NW
                        refine hK.out _ _ ⟨q1.below hb, q2.below hb, below_step q3 hb⟩ (fun hHeld => ?_)
                        clear hK K hb q1 q2 q3
                        try simp only [List.getElem_toArray, List.getElem_cons_succ, List.getElem_cons_zero, Act.put, List.setIfInBounds_toArray, List.set_cons_zero, List.set_cons_succ]
                        refine wpAnyH_take (i := 7) (v := ?_) rfl (by kernel_rfl) (by kernel_rfl) (by kernel_rfl) (fun _ _ _ h => h) (Or.inl ⟨by rfl, ?_⟩) (by assumption) ?_
                        rotate_left
                        · intro w hSw
                          go_simp
                          with_reducible rfl
                        try simp only [List.getElem_toArray, List.getElem_cons_succ, List.getElem_cons_zero, Act.put, List.setIfInBounds_toArray, List.set_cons_zero, List.set_cons_succ]
                        refine wpAnyH_take (i := 8) (v := ?_) rfl (by kernel_rfl) (by kernel_rfl) (by kernel_rfl) (fun _ _ _ h => h) (Or.inl ⟨by rfl, ?_⟩) (by assumption) ?_
                        rotate_left
                        · intro w hSw
                          go_simp
                          with_reducible rfl
                        try simp only [List.getElem_toArray, List.getElem_cons_succ, List.getElem_cons_zero, Act.put, List.setIfInBounds_toArray, List.set_cons_zero, List.set_cons_succ]
                        refine wpAnyH_take (i := 9) (v := ?_) rfl (by kernel_rfl) (by kernel_rfl) (by kernel_rfl) (fun _ _ _ h => h) (Or.inl ⟨by rfl, ?_⟩) (by assumption) ?_
                        rotate_left
                        · intro w hSw
                          go_simp
                          with_reducible rfl
                        try simp only [List.getElem_toArray, List.getElem_cons_succ, List.getElem_cons_zero, Act.put, List.setIfInBounds_toArray, List.set_cons_zero, List.set_cons_succ]
                        refine wpAnyH_ready (rs := [11]) (by kernel_rfl) (by simp) ?_
                        refine AllReadyH.cons rfl (fun K hK => ?_) AllReadyH.nil
                        obtain ⟨q1, q2, q3⟩ := hHeld
                        rw [if_pos (by rfl)]
                        refine box_wp_store 45 _ _ rfl V0.heap.size [.int .i64 v, .int .i64 (uf + a), .int .i64 gf] rfl rfl 45 [.int .i64 0, .int .i64 0, .int .i64 0] NW'.out (by kernel_rfl) rfl (by rfl) ?_
                        have hn := HGN.out
                        have NS := Aside0.mk (NW'.out.row [.int .i64 v, .int .i64 (uf + a), .int .i64 gf])
                        refine hK.out _ _ ⟨q1.rowOther (by omega) _, q2.rowOther (by omega) _, below_row q3 (by omega) _⟩ (fun hHeld => ?_)
                        clear hK K q1 q2 q3 hn
                        try simp only [List.getElem_toArray, List.getElem_cons_succ, List.getElem_cons_zero, Act.put, List.setIfInBounds_toArray, List.set_cons_zero, List.set_cons_succ]
                        refine wpAnyH_take (i := 12) (v := ?_) rfl (by kernel_rfl) (by kernel_rfl) (by kernel_rfl) (fun _ _ _ h => h) (Or.inl ⟨by rfl, ?_⟩) (by assumption) ?_
                        rotate_left
                        · intro w hSw
                          go_simp
                          with_reducible rfl
                        try simp only [List.getElem_toArray, List.getElem_cons_succ, List.getElem_cons_zero, Act.put, List.setIfInBounds_toArray, List.set_cons_zero, List.set_cons_succ]
                        refine wpAnyH_done (by kernel_rfl) ?_ _
                        obtain ⟨q1, q2, q3⟩ := hHeld
                        have Qq1 := Aside0.mk q1
                        have Qq2 := Aside0.mk q2
                        have Qq3 := Aside0.mk q3
                        clear q1 q2 q3
                        go_wp2_with fail
                        go_meet
                        case rel => exact ⟨_, rfl, rfl, NS, Qq1, Qq2, Qq3⟩
                  case rest =>
                    as_aux_lemma =>
                      clear HF HNOW HBN
                      obtain ⟨gX, rfl, rfl, HX2, HF, HNOW, HBN⟩ := hcut
                      clear HF
                      have hcm := cell_stays HBN.out HCM.out
                      go_upto_region 42 with fail
                      go_cut [358] (fun vt wc => vt = .bool false ∧ Aside0 (BoxAt wc gX 45 [.int .i64 v, .int .i64 (uf + a), .int .i64 gf]) ∧ Aside0 (BoxAt wc w30.heap.size 45 [.int .i64 v, .int .i64 u_, .int .i64 g_]) ∧ Aside0 (Below w30.heap.size w30 wc))
                      case first =>
                        as_aux_lemma =>
                          rcases Int.lt_trichotomy i kn with hik | hik | hik
                          · skip
                            have d1 : decide (i < kn) = true := decide_eq_true hik
                            have d2 : (i == kn) = false := beq_eq_false_iff_ne.mpr (by omega)
                            have d3 : (x != 0) = false := by rw [HKK.out.1 hik]; rfl
                            have d4 : (x == 0) = true := by rw [HKK.out.1 hik]; rfl
                            clear hik
                            go_wp2_with fail
                            go_meet
                            case rel => exact ⟨rfl, HX2, HNOW, HBN⟩
                          · skip
                            have d1 : decide (i < kn) = false := decide_eq_false (by omega)
                            have d2 : (i == kn) = true := beq_iff_eq.mpr hik
                            have d3 : (x == 0) = false := beq_eq_false_iff_ne.mpr (HKK.out.2 hik)
                            clear hik
                            go_wp2_with fail
                            go_meet
                            case rel => exact ⟨rfl, HX2, HNOW, HBN⟩
                          · skip
                            have d1 : decide (i < kn) = false := decide_eq_false (by omega)
                            have d2 : (i == kn) = false := beq_eq_false_iff_ne.mpr (by omega)
                            clear hik
                            go_wp2_with fail
                            go_meet
                            case rel => exact ⟨rfl, HX2, HNOW, HBN⟩
                      case rest =>
                        as_aux_lemma =>
                          clear HX2 HNOW HBN hcm
                          obtain ⟨rfl, HX2, HNOW, HBN⟩ := hcut
                          have hcm := cell_stays HBN.out HCM.out
                          have hwo : wrap64 (own + x) = own + x := by have := HOWN.out; have := HXB.out; have := HVV.out; unfold wrap64; omega
                          have HNOW2 := Aside0.mk (HNOW.out.row [.int .i64 v, .int .i64 (uf + a), .int .i64 gf])
                          have HBN2 := Aside0.mk (below_row HBN.out (Nat.le_refl _) ([.int .i64 v, .int .i64 (uf + a), .int .i64 gf] : List Value).toArray)
                          go_wp2_with (first | (refine box_load rfl 45 _ rfl gX rfl 45 [.int .i64 v, .int .i64 (uf + a), .int .i64 gf] HX2.out _ Try.underlying45 rfl (by kernel_rfl) ?_) | (refine box_store rfl 45 _ _ rfl w30.heap.size [.int .i64 v, .int .i64 (uf + a), .int .i64 gf] rfl rfl 45 [.int .i64 v, .int .i64 u_, .int .i64 g_] HNOW.out (by kernel_rfl) rfl (by rfl) ?_))
                          go_roundg k1
                          case measure => omega
                          case rel => exact ⟨i + 1, own + x, uf + a, gf, _, rfl, (by first | rfl | exact congrArg (Value.int .i64) hwo), (by first | rfl | exact congrArg (Value.int .i64) hwi), ⟨by have := HI.out; omega⟩, ⟨by have := HOWN.out; have := HSM.out; have := HXB.out; have := HSB.out; have := L_sumNonneg (R.drop (i + 1).toNat) (fun z hz => (HR3.out z (List.mem_of_mem_drop hz)).1); have := HSUM.out; omega⟩, HV2, HOK2, HNOW2, HBN2⟩
            | zero =>
              have hdec : decide (i < (A.length : Int)) = false := decide_eq_false (by have := HI.out; omega)
              have hE : (own == sm) = true := beq_iff_eq.mpr (by have h1 := HI.out; have h2 := HOWN.out.1; have h3 := HRL.out; rw [List.drop_eq_nil_of_le (by omega)] at h2; simpa using h2)
              have HBE := Aside0.mk (below_step HB_30.out HBN.out)
              clear HNOW HBN
              go_wp2_with fail
              go_ret
              exact ⟨rfl, HBE.out⟩
      · obtain rfl : cc = 6 := by have h_ := HCO.out; exact h_.resolve_left hcc
        clear hcc
        go_wp2_with fail
        go_ret
        exact ⟨rfl, HB_30.out⟩
set_option maxHeartbeats 8000000 in
set_option maxRecDepth 100000 in
theorem laws_FnReplenished.arr (w : World) (A0 : Option Addr) (c0 : Nat) (l0 : List Int) (hr0 : Kd.C (Kd.int .u8) w A0 l0.length l0) (hc0 : l0.length ≤ c0) (hs0 : ∀ x ∈ l0, 0 ≤ x ∧ x ≤ 255) (yy0 : l0.length * 1 ≤ 140737488351232) (A1 : Option Addr) (c1 : Nat) (l1 : List Int) (hr1 : Kd.C (Kd.int .u8) w A1 l1.length l1) (hc1 : l1.length ≤ c1) (hs1 : ∀ x ∈ l1, 0 ≤ x ∧ x ≤ 255) (yy1 : l1.length * 1 ≤ 140737488351232) :
    Calls Try.prog 6 #[.slice A0 l0.length c0, .slice A1 l1.length c1] w fun e w' => e = .returned (.bool true) ∧ Below w.heap.size w w' := by
  obtain ⟨b, hb⟩ : ∃ b, laws_a2Long.f l0 l1 = some b := by unfold laws_a2Long.f; split; exact ⟨_, rfl⟩; exact ⟨_, rfl⟩
  cases b with
  | false => exact laws_FnReplenished.walk A0 c0 l0 A1 c1 l1 w hr0 hc0 hs0 hr1 hc1 hs1 hb
  | true =>
    have HL := Aside0.mk hb
    have HR0 := Aside0.mk hr0
    have HR1 := Aside0.mk hr1
    have HC0 := Aside0.mk hc0
    have HC1 := Aside0.mk hc1
    clear hb hr0 hr1 hc0 hc1 hs0 hs1 yy0 yy1
    go_enter Try.func6, Try.ntmps6
    go_wp2_with fail
    refine (laws_a2Long.calls _ _ l0 _ _ l1 true _ HR0.out HC0.out HR1.out HC1.out HL.out).mono ?_
    rintro e w1 ⟨rfl, hb⟩
    have HB := Aside0.mk hb.below
    clear hb
    go_wp2_with fail
    go_ret
    exact ⟨rfl, HB.out⟩
end Go.Proofs.Ytldhgldknefjdaa.Q
