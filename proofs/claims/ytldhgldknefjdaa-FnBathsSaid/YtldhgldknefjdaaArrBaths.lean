-- The law FnBaths.
import Derived.Test.YtldhgldknefjdaaQx2
import Derived.Test.YtldhgldknefjdaaQx3
import Derived.Test.YtldhgldknefjdaaQx4
import Derived.Test.YtldhgldknefjdaaQx5
import Derived.Test.YtldhgldknefjdaaQx6
import Derived.Test.YtldhgldknefjdaaQx7
import Derived.Test.YtldhgldknefjdaaArrBox
import Derived.Test.YtldhgldknefjdaaArrOpen
import Derived.Test.YtldhgldknefjdaaArrPLG
import Derived.Deep.DeepCutAuto
namespace Go.Proofs.Ytldhgldknefjdaa.Q
open Go.RowKit Go.Proofs.Ytldhgldknefjdaa.PL Go.Proofs.YtldhgldknefjdaaW.PrintWords Go.Proofs.YtldhgldknefjdaaW.PrintLast Go.Proofs.YtldhgldknefjdaaW.PrintMore
attribute [local go_sem] max2_int min2_int max_two min_two max_three min_three max_four min_four
set_option linter.unusedVariables false
set_option linter.unusedSimpArgs false
theorem region_base {P : Program} {ops : Array Oper} {Q : Exit → Act → World → Prop} {id : Nat} {a : Act} {w : World} {S F : World → Prop} (hm : P.follows .mixedOrders = true) (hS : S w.drew) (hF : F w.drew) (h : ∀ V : World, S V → F V → wpAnyH P .any ops Q S ops.size (Array.replicate ops.size false) a V) : (Code.region id ops true).wp P Q a w := wp_region_held_drew hm hS (fun hs => h _ hs hF)
theorem cell_stays {w W : World} (hb : Below w.heap.size w W) {a : Addr} {v : Value} (h : w.cell? a = some v) : W.cell? a = some v := (hb.cell (World.block_lt_of_cell? _ _ h)).trans h
theorem region_old {P : Program} {ops : Array Oper} {Q : Exit → Act → World → Prop} {id : Nat} {a : Act} {w : World} (hm : P.follows .mixedOrders = true) (h : ∀ V : World, Below w.heap.size w V → wpAnyH P .any ops Q (fun w' => Below w.heap.size w w') ops.size (Array.replicate ops.size false) a V) : (Code.region id ops true).wp P Q a w := wp_region_held_drew hm (below_drew1 (Below.refl _ _)) (fun hs => h _ hs)
set_option maxHeartbeats 60000000 in
set_option maxRecDepth 100000 in
theorem laws_FnBaths.walk (A0 : Option Addr) (c0 : Nat) (l0 : List Int) (A1 : Option Addr) (c1 : Nat) (l1 : List Int) (w : World) (hr0 : Kd.C (Kd.int .u8) w A0 l0.length l0) (hc0 : l0.length ≤ c0) (hs0 : ∀ x ∈ l0, 0 ≤ x ∧ x ≤ 255) (hr1 : Kd.C (Kd.int .u8) w A1 l1.length l1) (hc1 : l1.length ≤ c1) (hs1 : ∀ x ∈ l1, 0 ≤ x ∧ x ≤ 255) (hlong : laws_a2Long.f l0 l1 = some false) :
    Calls Try.prog 5 #[.slice A0 l0.length c0, .slice A1 l1.length c1] w fun e w' => e = .returned (.bool true) ∧ Below w.heap.size w w' := by
  obtain ⟨p, k, c, d, v, u, g, e, hD, hV, hv, hp⟩ := L_bathDrawn hs0 (n := 60) (by omega)
  have hD' := hD
  unfold D_dev at hD'
  have hc : -128 ≤ c ∧ c ≤ 127 := by omega
  have hd : -128 ≤ d ∧ d ≤ 127 := by omega
  have hvb : 1 ≤ v ∧ v ≤ 2000 := by unfold D_vol at hV; omega
  have hSr := L_strengthRange hD hV
  obtain ⟨f1, f2, f3, f4⟩ := L_gbValid hc hd hD hV
  obtain ⟨x, ex, x0, x1⟩ := L_a2At hs1 (i := 0) (n := 200) (by omega) (by omega)
  obtain ⟨y, ey, y0, y1⟩ := L_a2At hs1 (i := 1) (n := 30) (by omega) (by omega)
  obtain ⟨m, em, m0, m1⟩ := L_a2At hs1 (i := 2) (n := v + 1) (by omega) (by omega)
  obtain ⟨z, ez, z0, z1⟩ := L_a2At hs1 (i := 3) (n := 100) (by omega) (by omega)
  obtain ⟨ar, har⟩ : ∃ q, q = 1 + x := ⟨_, rfl⟩
  have hwx : wrap64 (1 + x) = ar := by unfold wrap64; omega
  obtain ⟨zz, hzz⟩ : ∃ q, q = 1 + z := ⟨_, rfl⟩
  have hwz : wrap64 (1 + z) = zz := by unfold wrap64; omega
  have hwv : wrap64 (v + 1) = v + 1 := by unfold wrap64; omega
  have hwvz : wrap64 (v + zz) = v + zz := by unfold wrap64; omega
  obtain ⟨K, tw, k1, k2, k3, k4, k5⟩ := L_gbSlow (S := D_strength p k v u g) hSr
  obtain ⟨s1, s2, s3, c5, g1, g2, g3⟩ := L_gbSheet hc hd hD hV (a := ar) (by omega)
  obtain ⟨o1, o2, o3, c6, r1, r2, r3⟩ := L_gbRest (y := y) hc hd hD hV
  obtain ⟨fu, fg, S7, q1, q2, q3, q4⟩ := L_gbFill (m := m) hc hd hD hV (by omega)
  obtain ⟨mq, t1, t2, t3⟩ := L_mixWater hc hd hD hV hv (x := zz) (by omega) (n := 60) (by omega)
  obtain ⟨S, hS⟩ : ∃ q, q = D_strength p k v u g := ⟨_, rfl⟩
  rw [← hS] at hSr f1 f2 k1 k2 k3 k5 g3 r3 q4
  have EB := Aside0.mk (e)
  have F1 := Aside0.mk (f1)
  have F2 := Aside0.mk (f2)
  have F3 := Aside0.mk (f3)
  have F4 := Aside0.mk (f4)
  have EX := Aside0.mk (ex)
  have EY := Aside0.mk (ey)
  have EM := Aside0.mk (em)
  have EZ := Aside0.mk (ez)
  have HWX := Aside0.mk (hwx)
  have HWZ := Aside0.mk (hwz)
  have HWV := Aside0.mk (hwv)
  have HWVZ := Aside0.mk (hwvz)
  have K1 := Aside0.mk (k1)
  have K2 := Aside0.mk (k2)
  have K3 := Aside0.mk (k3)
  have K4 := Aside0.mk (k4)
  have K5 := Aside0.mk (k5)
  have G1 := Aside0.mk (g1)
  have G2 := Aside0.mk (g2)
  have G3 := Aside0.mk (g3)
  have R1 := Aside0.mk (r1)
  have R2 := Aside0.mk (r2)
  have R3 := Aside0.mk (r3)
  have Q1 := Aside0.mk (q1)
  have Q2 := Aside0.mk (q2)
  have Q3 := Aside0.mk (q3)
  have Q4 := Aside0.mk (q4)
  have T1 := Aside0.mk (t1)
  have T2 := Aside0.mk (t2)
  have T3 := Aside0.mk (t3)
  have HSR := Aside0.mk (hSr)
  have HLO := Aside0.mk (hlong)
  have HR0 := Aside0.mk (hr0)
  have HR1 := Aside0.mk (hr1)
  have HC0 := Aside0.mk (hc0)
  have HC1 := Aside0.mk (hc1)
  clear e hD hV hD' hc hd hvb hSr f1 f2 f3 f4 ex x0 x1 ey y0 y1 em m0 m1 ez z0 z1 har hwx hzz hwz hwv hwvz k1 k2 k3 k4 k5 g1 g2 g3 r1 r2 r3 q1 q2 q3 q4 t1 t2 t3 hS hlong hr0 hr1 hc0 hc1 hs0 hs1 hv hp
  go_enter Try.func5, Try.ntmps5
  have HB_0 := Aside0.mk (Below.refl w.heap.size w)
  go_wp2_with fail
  refine (laws_a2Long.calls _ _ l0 _ _ l1 false _ (Kd.C_below HR0.out HB_0.out) HC0.out (Kd.C_below HR1.out HB_0.out) HC1.out HLO.out).mono ?_
  rintro e w1 ⟨rfl, hb⟩
  replace hb := hb.below
  have HB_1 := Aside0.mk (below_step HB_0.out hb)
  clear hb HB_0
  go_wp2_with fail
  refine (spec_A2Bath.calls 60 _ _ l0 p k c d v u g _ (Kd.C_below HR0.out HB_1.out) HC0.out EB.out).mono ?_
  rintro e w2 ⟨rfl, hb⟩
  have HB_2 := Aside0.mk (below_step HB_1.out hb)
  clear hb HB_1
  obtain ⟨bd, bb, hba⟩ := box_two w2 43 45 [.int .i64 p, .int .i64 k, .int .i8 c, .int .i8 d] [.int .i64 v, .int .i64 u, .int .i64 g]
  have HBD := Aside0.mk bd
  have HBB := Aside0.mk bb
  clear bd bb
  have HB_3 := Aside0.mk (below_step HB_2.out hba)
  clear hba HB_2
  go_wp2_with (first | (refine box_load rfl 43 _ rfl w2.heap.size rfl 43 [.int .i64 p, .int .i64 k, .int .i8 c, .int .i8 d] HBD.out _ Try.underlying43 rfl (by kernel_rfl) ?_) | (refine box_load rfl 45 _ rfl (w2.heap.size + 1) rfl 45 [.int .i64 v, .int .i64 u, .int .i64 g] HBB.out _ Try.underlying45 rfl (by kernel_rfl) ?_))
  refine (impl_StrengthOf.calls p k c d v u g S 0 _ F1.out).mono ?_
  rintro e w4 ⟨rfl, hb⟩
  have HBD_4 := Aside0.mk (HBD.out.below hb)
  have HBB_4 := Aside0.mk (HBB.out.below hb)
  have HB_4 := Aside0.mk (below_step HB_3.out hb)
  clear hb HBD HBB HB_3
  go_wp2_with (first | (refine box_load rfl 43 _ rfl w2.heap.size rfl 43 [.int .i64 p, .int .i64 k, .int .i8 c, .int .i8 d] HBD_4.out _ Try.underlying43 rfl (by kernel_rfl) ?_) | (refine box_load rfl 45 _ rfl (w2.heap.size + 1) rfl 45 [.int .i64 v, .int .i64 u, .int .i64 g] HBB_4.out _ Try.underlying45 rfl (by kernel_rfl) ?_))
  refine (spec_StrengthOf.calls p k c d v u g S 0 _ F2.out).mono ?_
  rintro e w5 ⟨rfl, hb⟩
  have HBD_5 := Aside0.mk (HBD_4.out.below hb)
  have HBB_5 := Aside0.mk (HBB_4.out.below hb)
  have HB_5 := Aside0.mk (below_step HB_4.out hb)
  clear hb HBD_4 HBB_4 HB_4
  have lt1 : decide (S < 0) = false := decide_eq_false (by have := HSR.out; omega)
  have lt2 : decide (1000 < S) = false := decide_eq_false (by have := HSR.out; omega)
  go_wp2_with (first | (refine box_loadG (by rfl) 43 _ rfl w2.heap.size rfl 43 [.int .i64 p, .int .i64 k, .int .i8 c, .int .i8 d] HBD_5.out _ Try.underlying43 rfl (by kernel_rfl) ?_) | (refine box_loadG (by rfl) 45 _ rfl (w2.heap.size + 1) rfl 45 [.int .i64 v, .int .i64 u, .int .i64 g] HBB_5.out _ Try.underlying45 rfl (by kernel_rfl) ?_))
  refine (impl_ValidDeveloper.calls p k c d true _ F3.out).mono ?_
  rintro e w6 ⟨rfl, hb⟩
  have HBD_6 := Aside0.mk (HBD_5.out.below hb)
  have HBB_6 := Aside0.mk (HBB_5.out.below hb)
  have HB_6 := Aside0.mk (below_step HB_5.out hb)
  clear hb HBD_5 HBB_5 HB_5
  go_wp2_with (first | (refine box_loadG (by rfl) 43 _ rfl w2.heap.size rfl 43 [.int .i64 p, .int .i64 k, .int .i8 c, .int .i8 d] HBD_6.out _ Try.underlying43 rfl (by kernel_rfl) ?_) | (refine box_loadG (by rfl) 45 _ rfl (w2.heap.size + 1) rfl 45 [.int .i64 v, .int .i64 u, .int .i64 g] HBB_6.out _ Try.underlying45 rfl (by kernel_rfl) ?_))
  refine (impl_ValidBath.calls p k c d v u g true _ F4.out).mono ?_
  rintro e w7 ⟨rfl, hb⟩
  have HBD_7 := Aside0.mk (HBD_6.out.below hb)
  have HBB_7 := Aside0.mk (HBB_6.out.below hb)
  have HB_7 := Aside0.mk (below_step HB_6.out hb)
  clear hb HBD_6 HBB_6 HB_6
  go_wp2_with (first | (refine box_load rfl 43 _ rfl w2.heap.size rfl 43 [.int .i64 p, .int .i64 k, .int .i8 c, .int .i8 d] HBD_7.out _ Try.underlying43 rfl (by kernel_rfl) ?_) | (refine box_load rfl 45 _ rfl (w2.heap.size + 1) rfl 45 [.int .i64 v, .int .i64 u, .int .i64 g] HBB_7.out _ Try.underlying45 rfl (by kernel_rfl) ?_))
  refine (impl_SlowerBy.calls 60 S K tw _ K1.out).mono ?_
  rintro e w8 ⟨rfl, hb⟩
  replace hb := hb.below
  have HBD_8 := Aside0.mk (HBD_7.out.below hb)
  have HBB_8 := Aside0.mk (HBB_7.out.below hb)
  have HB_8 := Aside0.mk (below_step HB_7.out hb)
  clear hb HBD_7 HBB_7 HB_7
  clear lt1 lt2
  go_wp2_with (first | (refine box_load rfl 43 _ rfl w2.heap.size rfl 43 [.int .i64 p, .int .i64 k, .int .i8 c, .int .i8 d] HBD_8.out _ Try.underlying43 rfl (by kernel_rfl) ?_) | (refine box_load rfl 45 _ rfl (w2.heap.size + 1) rfl 45 [.int .i64 v, .int .i64 u, .int .i64 g] HBB_8.out _ Try.underlying45 rfl (by kernel_rfl) ?_))
  refine (spec_SlowerBy.calls 60 S K tw _ K2.out).mono ?_
  rintro e w9 ⟨rfl, hb⟩
  have HBD_9 := Aside0.mk (HBD_8.out.below hb)
  have HBB_9 := Aside0.mk (HBB_8.out.below hb)
  have HB_9 := Aside0.mk (below_step HB_8.out hb)
  clear hb HBD_8 HBB_8 HB_8
  go_upto_region 10 with fail
  go_cut [120] (fun v1 wc => v1 = .bool false ∧ Aside0 (BoxAt wc w2.heap.size 43 [.int .i64 p, .int .i64 k, .int .i8 c, .int .i8 d]) ∧ Aside0 (BoxAt wc (w2.heap.size + 1) 45 [.int .i64 v, .int .i64 u, .int .i64 g]) ∧ Aside0 (Below w.heap.size w wc))
  case first =>
    as_aux_lemma =>
      rcases K4.out with htw | htw
      · have t1 : (tw != 0) = false := by rw [htw]; rfl
        have t2 : (tw != 6) = true := by rw [htw]; rfl
        clear htw
        go_wp2_with fail
        go_meet
        case rel => exact ⟨rfl, HBD_9, HBB_9, HB_9⟩
      · have t1 : (tw != 0) = true := by rw [htw]; rfl
        have t2 : (tw != 6) = false := by rw [htw]; rfl
        clear htw
        go_wp2_with fail
        go_meet
        case rel => exact ⟨rfl, HBD_9, HBB_9, HB_9⟩
  case rest =>
    as_aux_lemma =>
      clear HBD_9 HBB_9 HB_9
      obtain ⟨rfl, HBD_10, HBB_10, HB_10⟩ := hcut
      go_upto_if 122 with fail
      go_cut [] (fun wc => Aside0 (BoxAt wc w2.heap.size 43 [.int .i64 p, .int .i64 k, .int .i8 c, .int .i8 d]) ∧ Aside0 (BoxAt wc (w2.heap.size + 1) 45 [.int .i64 v, .int .i64 u, .int .i64 g]) ∧ Aside0 (Below w.heap.size w wc))
      case first =>
        as_aux_lemma =>
          by_cases htw : tw = 0
          · have t1 : (tw == 0) = true := beq_iff_eq.mpr htw
            rw [t1]
            obtain ⟨T, h1, h2, h3, h4⟩ := K5.out htw
            have HT1 := Aside0.mk h1
            have HT4 := Aside0.mk h4
            have t3 : decide (T * S < 1000000) = false := decide_eq_false (by omega)
            clear h1 h3 h4 htw
            go_wp2_with (first | (refine box_load rfl 43 _ rfl w2.heap.size rfl 43 [.int .i64 p, .int .i64 k, .int .i8 c, .int .i8 d] HBD_10.out _ Try.underlying43 rfl (by kernel_rfl) ?_) | (refine box_load rfl 45 _ rfl (w2.heap.size + 1) rfl 45 [.int .i64 v, .int .i64 u, .int .i64 g] HBB_10.out _ Try.underlying45 rfl (by kernel_rfl) ?_))
            refine (impl_TimeOf.calls K T 0 _ HT1.out).mono ?_
            rintro e w11 ⟨rfl, hb⟩
            replace hb := hb.below
            have HBD_11 := Aside0.mk (HBD_10.out.below hb)
            have HBB_11 := Aside0.mk (HBB_10.out.below hb)
            have HB_11 := Aside0.mk (below_step HB_10.out hb)
            clear hb HBD_10 HBB_10 HB_10
            by_cases hk : (0 : Int) < K
            · have t4 : decide (0 < K) = true := decide_eq_true hk
              obtain ⟨h5, T', h6, h7, h8⟩ := HT4.out hk
              have HT6 := Aside0.mk h6
              have t5 : decide (1000000 ≤ T' * S) = false := decide_eq_false (by omega)
              clear h6 h8 hk
              go_wp2_with (first | (refine box_load rfl 43 _ rfl w2.heap.size rfl 43 [.int .i64 p, .int .i64 k, .int .i8 c, .int .i8 d] HBD_11.out _ Try.underlying43 rfl (by kernel_rfl) ?_) | (refine box_load rfl 45 _ rfl (w2.heap.size + 1) rfl 45 [.int .i64 v, .int .i64 u, .int .i64 g] HBB_11.out _ Try.underlying45 rfl (by kernel_rfl) ?_))
              refine (impl_TimeOf.calls (K - 1) T' 0 _ HT6.out).mono ?_
              rintro e w12 ⟨rfl, hb⟩
              replace hb := hb.below
              have HBD_12 := Aside0.mk (HBD_11.out.below hb)
              have HBB_12 := Aside0.mk (HBB_11.out.below hb)
              have HB_12 := Aside0.mk (below_step HB_11.out hb)
              clear hb HBD_11 HBB_11 HB_11
              go_wp2_with fail
              go_meet
              case rel => exact ⟨HBD_12, HBB_12, HB_12⟩
            · have t4 : decide (0 < K) = false := decide_eq_false hk
              clear hk
              go_wp2_with fail
              go_meet
              case rel => exact ⟨HBD_11, HBB_11, HB_11⟩
          · have t1 : (tw == 0) = false := beq_eq_false_iff_ne.mpr htw
            rw [t1]
            clear htw
            go_wp2_with fail
            go_meet
            case rel => exact ⟨HBD_10, HBB_10, HB_10⟩
      case rest =>
        as_aux_lemma =>
          clear HBD_10 HBB_10 HB_10
          obtain ⟨HBD_13, HBB_13, HB_13⟩ := hcut
          have hwx := HWX.out
          go_wp2_with (first | (refine box_load rfl 43 _ rfl w2.heap.size rfl 43 [.int .i64 p, .int .i64 k, .int .i8 c, .int .i8 d] HBD_13.out _ Try.underlying43 rfl (by kernel_rfl) ?_) | (refine box_load rfl 45 _ rfl (w2.heap.size + 1) rfl 45 [.int .i64 v, .int .i64 u, .int .i64 g] HBB_13.out _ Try.underlying45 rfl (by kernel_rfl) ?_))
          refine (laws_a2At.calls _ _ l1 0 200 x _ (Kd.C_below HR1.out HB_13.out) HC1.out EX.out).mono ?_
          rintro e w14 ⟨rfl, hb⟩
          replace hb := hb.below
          have HBD_14 := Aside0.mk (HBD_13.out.below hb)
          have HBB_14 := Aside0.mk (HBB_13.out.below hb)
          have HB_14 := Aside0.mk (below_step HB_13.out hb)
          clear hb HBD_13 HBB_13 HB_13
          go_wp2_with (first | (refine box_load rfl 43 _ rfl w2.heap.size rfl 43 [.int .i64 p, .int .i64 k, .int .i8 c, .int .i8 d] HBD_14.out _ Try.underlying43 rfl (by kernel_rfl) ?_) | (refine box_load rfl 45 _ rfl (w2.heap.size + 1) rfl 45 [.int .i64 v, .int .i64 u, .int .i64 g] HBB_14.out _ Try.underlying45 rfl (by kernel_rfl) ?_))
          refine (impl_DevelopSheet.calls 60 p k c d v u g ar s1 s2 s3 c5 _ G1.out).mono ?_
          rintro e w15 ⟨rfl, hb⟩
          have HBD_15 := Aside0.mk (HBD_14.out.below hb)
          have HBB_15 := Aside0.mk (HBB_14.out.below hb)
          have HB_15 := Aside0.mk (below_step HB_14.out hb)
          clear hb HBD_14 HBB_14 HB_14
          clear hwx
          obtain ⟨bx, hba⟩ := box_one w15 45 [.int .i64 s1, .int .i64 s2, .int .i64 s3]
          have HS1 := Aside0.mk bx
          clear bx
          have HBD_16 := Aside0.mk (HBD_15.out.below hba)
          have HBB_16 := Aside0.mk (HBB_15.out.below hba)
          have HB_16 := Aside0.mk (below_step HB_15.out hba)
          clear hba HBD_15 HBB_15 HB_15
          go_wp2_with (first | (refine box_load rfl 43 _ rfl w2.heap.size rfl 43 [.int .i64 p, .int .i64 k, .int .i8 c, .int .i8 d] HBD_16.out _ Try.underlying43 rfl (by kernel_rfl) ?_) | (refine box_load rfl 45 _ rfl (w2.heap.size + 1) rfl 45 [.int .i64 v, .int .i64 u, .int .i64 g] HBB_16.out _ Try.underlying45 rfl (by kernel_rfl) ?_))
          refine (spec_DevelopSheet.calls 60 p k c d v u g ar s1 s2 s3 c5 _ G2.out).mono ?_
          rintro e w17 ⟨rfl, hb⟩
          have HBD_17 := Aside0.mk (HBD_16.out.below hb)
          have HBB_17 := Aside0.mk (HBB_16.out.below hb)
          have HS1_17 := Aside0.mk (HS1.out.below hb)
          have HB_17 := Aside0.mk (below_step HB_16.out hb)
          clear hb HBD_16 HBB_16 HS1 HB_16
          obtain ⟨bx, hba⟩ := box_one w17 45 [.int .i64 s1, .int .i64 s2, .int .i64 s3]
          have HS2 := Aside0.mk bx
          clear bx
          have HBD_18 := Aside0.mk (HBD_17.out.below hba)
          have HBB_18 := Aside0.mk (HBB_17.out.below hba)
          have HS1_18 := Aside0.mk (HS1_17.out.below hba)
          have HB_18 := Aside0.mk (below_step HB_17.out hba)
          clear hba HBD_17 HBB_17 HS1_17 HB_17
          go_upto_region 23 with fail
          go_cut [24, 25] (fun va vb wc => ∃ gx : Nat, va = .pointer (some ⟨gx, 0, none⟩) ∧ vb = .int .i64 c6 ∧ Aside0 (BoxAt wc gx 45 [.int .i64 o1, .int .i64 o2, .int .i64 o3]) ∧ Aside0 (BoxAt wc w2.heap.size 43 [.int .i64 p, .int .i64 k, .int .i8 c, .int .i8 d]) ∧ Aside0 (BoxAt wc (w2.heap.size + 1) 45 [.int .i64 v, .int .i64 u, .int .i64 g]) ∧ Aside0 (BoxAt wc w15.heap.size 45 [.int .i64 s1, .int .i64 s2, .int .i64 s3]) ∧ Aside0 (BoxAt wc w17.heap.size 45 [.int .i64 s1, .int .i64 s2, .int .i64 s3]) ∧ Aside0 (Below w.heap.size w wc))
          case first =>
            as_aux_lemma =>
              refine region_old (by kernel_rfl) (fun V0 hHeld => ?_)
              refine wpAnyH_take (i := 0) (v := .agg ([.int .i64 p, .int .i64 k, .int .i8 c, .int .i8 d] : List Value).toArray) rfl (by kernel_rfl) (by kernel_rfl) (by kernel_rfl) (fun _ _ _ h => h) (yieldsIf_load_mid (by rfl) _ _ rfl _ _ rfl _ _ (fun w' h => BoxAt.range (HBD_18.out.below h)) Try.underlying43 rfl (by kernel_rfl)) (by assumption) ?_
              try simp only [List.getElem_toArray, List.getElem_cons_succ, List.getElem_cons_zero, Act.put, List.setIfInBounds_toArray, List.set_cons_zero, List.set_cons_succ]
              refine wpAnyH_take (i := 1) (v := .agg ([.int .i64 v, .int .i64 u, .int .i64 g] : List Value).toArray) rfl (by kernel_rfl) (by kernel_rfl) (by kernel_rfl) (fun _ _ _ h => h) (yieldsIf_load_mid (by rfl) _ _ rfl _ _ rfl _ _ (fun w' h => BoxAt.range (HBB_18.out.below h)) Try.underlying45 rfl (by kernel_rfl)) (by assumption) ?_
              try simp only [List.getElem_toArray, List.getElem_cons_succ, List.getElem_cons_zero, Act.put, List.setIfInBounds_toArray, List.set_cons_zero, List.set_cons_succ]
              refine wpAnyH_take (i := 2) (v := ?_) rfl (by kernel_rfl) (by kernel_rfl) (by kernel_rfl) (fun _ _ _ h => h) (Or.inl ⟨by rfl, ?_⟩) (by assumption) ?_
              rotate_left
              · intro w hSw
                go_simp
                with_reducible rfl
              try simp only [List.getElem_toArray, List.getElem_cons_succ, List.getElem_cons_zero, Act.put, List.setIfInBounds_toArray, List.set_cons_zero, List.set_cons_succ]
              refine wpAnyH_ready (rs := [3, 8]) (by kernel_rfl) (by simp) ?_
              refine AllReadyH.cons rfl (fun K hK => ?_) (AllReadyH.cons rfl (fun K hK => ?_) AllReadyH.nil)
              · skip
                have q := hHeld
                clear hHeld
                go_simp
                refine (laws_a2At.calls _ _ l1 1 30 y _ (Kd.C_below HR1.out (below_step HB_18.out q)) HC1.out EY.out).mono ?_
                rintro e V1 ⟨rfl, hb⟩
                replace hb := hb.below
                go_wp2_with fail
                refine hK.out _ _ (below_step q hb) (fun hHeld => ?_)
                clear hK K hb q
                try simp only [List.getElem_toArray, List.getElem_cons_succ, List.getElem_cons_zero, Act.put, List.setIfInBounds_toArray, List.set_cons_zero, List.set_cons_succ]
                refine wpAnyH_ready (rs := [4, 8]) (by kernel_rfl) (by simp) ?_
                refine AllReadyH.cons rfl (fun K hK => ?_) (AllReadyH.cons rfl (fun K hK => ?_) AllReadyH.nil)
                · skip
                  have q := hHeld
                  clear hHeld
                  go_simp
                  refine (impl_RestBath.calls p k c d v u g y o1 o2 o3 c6 _ R1.out).mono ?_
                  rintro e V2 ⟨rfl, hb⟩
                  go_wp2_with fail
                  refine hK.out _ _ (below_step q hb) (fun hHeld => ?_)
                  clear hK K hb q
                  try simp only [List.getElem_toArray, List.getElem_cons_succ, List.getElem_cons_zero, Act.put, List.setIfInBounds_toArray, List.set_cons_zero, List.set_cons_succ]
                  refine wpAnyH_take (i := 5) (v := ?_) rfl (by kernel_rfl) (by kernel_rfl) (by kernel_rfl) (fun _ _ _ h => h) (Or.inl ⟨by rfl, ?_⟩) (by assumption) ?_
                  rotate_left
                  · intro w hSw
                    go_simp
                    with_reducible rfl
                  try simp only [List.getElem_toArray, List.getElem_cons_succ, List.getElem_cons_zero, Act.put, List.setIfInBounds_toArray, List.set_cons_zero, List.set_cons_succ]
                  refine wpAnyH_take (i := 6) (v := ?_) rfl (by kernel_rfl) (by kernel_rfl) (by kernel_rfl) (fun _ _ _ h => h) (Or.inl ⟨by rfl, ?_⟩) (by assumption) ?_
                  rotate_left
                  · intro w hSw
                    go_simp
                    with_reducible rfl
                  try simp only [List.getElem_toArray, List.getElem_cons_succ, List.getElem_cons_zero, Act.put, List.setIfInBounds_toArray, List.set_cons_zero, List.set_cons_succ]
                  refine wpAnyH_take (i := 7) (v := ?_) rfl (by kernel_rfl) (by kernel_rfl) (by kernel_rfl) (fun _ _ _ h => h) (Or.inl ⟨by rfl, ?_⟩) (by assumption) ?_
                  rotate_left
                  · intro w hSw
                    go_simp
                    with_reducible rfl
                  try simp only [List.getElem_toArray, List.getElem_cons_succ, List.getElem_cons_zero, Act.put, List.setIfInBounds_toArray, List.set_cons_zero, List.set_cons_succ]
                  refine wpAnyH_ready (rs := [8]) (by kernel_rfl) (by simp) ?_
                  refine AllReadyH.cons rfl (fun K hK => ?_) AllReadyH.nil
                  have q := hHeld
                  clear hHeld
                  go_simp
                  have NW := Aside0.mk (BoxAt.new V2 45 [.int .i64 0, .int .i64 0, .int .i64 0])
                  have hb := (Below.refl V2.heap.size V2).alloc (Nat.le_refl _) (.cells ([.int .i64 0, .int .i64 0, .int .i64 0] : List Value).toArray 45)
                  have HGN := Aside0.mk (Below.size q)
                  refine hK.out _ _ (below_step q hb) (fun hHeld => ?_)
                  clear hK K hb q
                  try simp only [List.getElem_toArray, List.getElem_cons_succ, List.getElem_cons_zero, Act.put, List.setIfInBounds_toArray, List.set_cons_zero, List.set_cons_succ]
                  refine wpAnyH_ready (rs := [9]) (by kernel_rfl) (by simp) ?_
                  refine AllReadyH.cons rfl (fun K hK => ?_) AllReadyH.nil
                  have q := hHeld
                  clear hHeld
                  rw [if_pos (by rfl)]
                  refine box_wp_store 45 _ _ rfl V2.heap.size [.int .i64 o1, .int .i64 o2, .int .i64 o3] rfl rfl 45 [.int .i64 0, .int .i64 0, .int .i64 0] NW.out (by kernel_rfl) rfl (by rfl) ?_
                  have NS := Aside0.mk (NW.out.row [.int .i64 o1, .int .i64 o2, .int .i64 o3])
                  refine hK.out _ _ (below_row q HGN.out _) (fun hHeld => ?_)
                  clear hK K q
                  try simp only [List.getElem_toArray, List.getElem_cons_succ, List.getElem_cons_zero, Act.put, List.setIfInBounds_toArray, List.set_cons_zero, List.set_cons_succ]
                  refine wpAnyH_take (i := 10) (v := ?_) rfl (by kernel_rfl) (by kernel_rfl) (by kernel_rfl) (fun _ _ _ h => h) (Or.inl ⟨by rfl, ?_⟩) (by assumption) ?_
                  rotate_left
                  · intro w hSw
                    go_simp
                    with_reducible rfl
                  try simp only [List.getElem_toArray, List.getElem_cons_succ, List.getElem_cons_zero, Act.put, List.setIfInBounds_toArray, List.set_cons_zero, List.set_cons_succ]
                  refine wpAnyH_done (by kernel_rfl) ?_ _
                  have QB := Aside0.mk hHeld
                  clear hHeld
                  go_wp2_with fail
                  have HBDq := Aside0.mk (HBD_18.out.below QB.out)
                  have HBBq := Aside0.mk (HBB_18.out.below QB.out)
                  have HS1q := Aside0.mk (HS1_18.out.below QB.out)
                  have HS2q := Aside0.mk (HS2.out.below QB.out)
                  have HBq := Aside0.mk (below_step HB_18.out QB.out)
                  go_meet
                  case rel => exact ⟨_, rfl, rfl, NS, HBDq, HBBq, HS1q, HS2q, HBq⟩
                · skip
                  have q := hHeld
                  clear hHeld
                  go_simp
                  have NW := Aside0.mk (BoxAt.new V1 45 [.int .i64 0, .int .i64 0, .int .i64 0])
                  have hb := (Below.refl V1.heap.size V1).alloc (Nat.le_refl _) (.cells ([.int .i64 0, .int .i64 0, .int .i64 0] : List Value).toArray 45)
                  have HGN := Aside0.mk (Below.size q)
                  refine hK.out _ _ (below_step q hb) (fun hHeld => ?_)
                  clear hK K hb q
                  try simp only [List.getElem_toArray, List.getElem_cons_succ, List.getElem_cons_zero, Act.put, List.setIfInBounds_toArray, List.set_cons_zero, List.set_cons_succ]
                  refine wpAnyH_ready (rs := [4]) (by kernel_rfl) (by simp) ?_
                  refine AllReadyH.cons rfl (fun K hK => ?_) AllReadyH.nil
                  have q := hHeld
                  clear hHeld
                  go_simp
                  refine (impl_RestBath.calls p k c d v u g y o1 o2 o3 c6 _ R1.out).mono ?_
                  rintro e V3 ⟨rfl, hb⟩
                  go_wp2_with fail
                  have NW' := Aside0.mk (NW.out.below hb)
                  clear NW
                  refine hK.out _ _ (below_step q hb) (fun hHeld => ?_)
                  clear hK K hb q
                  try simp only [List.getElem_toArray, List.getElem_cons_succ, List.getElem_cons_zero, Act.put, List.setIfInBounds_toArray, List.set_cons_zero, List.set_cons_succ]
                  refine wpAnyH_take (i := 5) (v := ?_) rfl (by kernel_rfl) (by kernel_rfl) (by kernel_rfl) (fun _ _ _ h => h) (Or.inl ⟨by rfl, ?_⟩) (by assumption) ?_
                  rotate_left
                  · intro w hSw
                    go_simp
                    with_reducible rfl
                  try simp only [List.getElem_toArray, List.getElem_cons_succ, List.getElem_cons_zero, Act.put, List.setIfInBounds_toArray, List.set_cons_zero, List.set_cons_succ]
                  refine wpAnyH_take (i := 6) (v := ?_) rfl (by kernel_rfl) (by kernel_rfl) (by kernel_rfl) (fun _ _ _ h => h) (Or.inl ⟨by rfl, ?_⟩) (by assumption) ?_
                  rotate_left
                  · intro w hSw
                    go_simp
                    with_reducible rfl
                  try simp only [List.getElem_toArray, List.getElem_cons_succ, List.getElem_cons_zero, Act.put, List.setIfInBounds_toArray, List.set_cons_zero, List.set_cons_succ]
                  refine wpAnyH_take (i := 7) (v := ?_) rfl (by kernel_rfl) (by kernel_rfl) (by kernel_rfl) (fun _ _ _ h => h) (Or.inl ⟨by rfl, ?_⟩) (by assumption) ?_
                  rotate_left
                  · intro w hSw
                    go_simp
                    with_reducible rfl
                  try simp only [List.getElem_toArray, List.getElem_cons_succ, List.getElem_cons_zero, Act.put, List.setIfInBounds_toArray, List.set_cons_zero, List.set_cons_succ]
                  refine wpAnyH_ready (rs := [9]) (by kernel_rfl) (by simp) ?_
                  refine AllReadyH.cons rfl (fun K hK => ?_) AllReadyH.nil
                  have q := hHeld
                  clear hHeld
                  rw [if_pos (by rfl)]
                  refine box_wp_store 45 _ _ rfl V1.heap.size [.int .i64 o1, .int .i64 o2, .int .i64 o3] rfl rfl 45 [.int .i64 0, .int .i64 0, .int .i64 0] NW'.out (by kernel_rfl) rfl (by rfl) ?_
                  have NS := Aside0.mk (NW'.out.row [.int .i64 o1, .int .i64 o2, .int .i64 o3])
                  refine hK.out _ _ (below_row q HGN.out _) (fun hHeld => ?_)
                  clear hK K q
                  try simp only [List.getElem_toArray, List.getElem_cons_succ, List.getElem_cons_zero, Act.put, List.setIfInBounds_toArray, List.set_cons_zero, List.set_cons_succ]
                  refine wpAnyH_take (i := 10) (v := ?_) rfl (by kernel_rfl) (by kernel_rfl) (by kernel_rfl) (fun _ _ _ h => h) (Or.inl ⟨by rfl, ?_⟩) (by assumption) ?_
                  rotate_left
                  · intro w hSw
                    go_simp
                    with_reducible rfl
                  try simp only [List.getElem_toArray, List.getElem_cons_succ, List.getElem_cons_zero, Act.put, List.setIfInBounds_toArray, List.set_cons_zero, List.set_cons_succ]
                  refine wpAnyH_done (by kernel_rfl) ?_ _
                  have QB := Aside0.mk hHeld
                  clear hHeld
                  go_wp2_with fail
                  have HBDq := Aside0.mk (HBD_18.out.below QB.out)
                  have HBBq := Aside0.mk (HBB_18.out.below QB.out)
                  have HS1q := Aside0.mk (HS1_18.out.below QB.out)
                  have HS2q := Aside0.mk (HS2.out.below QB.out)
                  have HBq := Aside0.mk (below_step HB_18.out QB.out)
                  go_meet
                  case rel => exact ⟨_, rfl, rfl, NS, HBDq, HBBq, HS1q, HS2q, HBq⟩
              · skip
                have q := hHeld
                clear hHeld
                go_simp
                have NW := Aside0.mk (BoxAt.new V0 45 [.int .i64 0, .int .i64 0, .int .i64 0])
                have hb := (Below.refl V0.heap.size V0).alloc (Nat.le_refl _) (.cells ([.int .i64 0, .int .i64 0, .int .i64 0] : List Value).toArray 45)
                have HGN := Aside0.mk (Below.size q)
                refine hK.out _ _ (below_step q hb) (fun hHeld => ?_)
                clear hK K hb q
                try simp only [List.getElem_toArray, List.getElem_cons_succ, List.getElem_cons_zero, Act.put, List.setIfInBounds_toArray, List.set_cons_zero, List.set_cons_succ]
                refine wpAnyH_ready (rs := [3]) (by kernel_rfl) (by simp) ?_
                refine AllReadyH.cons rfl (fun K hK => ?_) AllReadyH.nil
                have q := hHeld
                clear hHeld
                go_simp
                refine (laws_a2At.calls _ _ l1 1 30 y _ (Kd.C_below HR1.out (below_step HB_18.out q)) HC1.out EY.out).mono ?_
                rintro e V4 ⟨rfl, hb⟩
                replace hb := hb.below
                go_wp2_with fail
                have NW' := Aside0.mk (NW.out.below hb)
                clear NW
                refine hK.out _ _ (below_step q hb) (fun hHeld => ?_)
                clear hK K hb q
                try simp only [List.getElem_toArray, List.getElem_cons_succ, List.getElem_cons_zero, Act.put, List.setIfInBounds_toArray, List.set_cons_zero, List.set_cons_succ]
                refine wpAnyH_ready (rs := [4]) (by kernel_rfl) (by simp) ?_
                refine AllReadyH.cons rfl (fun K hK => ?_) AllReadyH.nil
                have q := hHeld
                clear hHeld
                go_simp
                refine (impl_RestBath.calls p k c d v u g y o1 o2 o3 c6 _ R1.out).mono ?_
                rintro e V5 ⟨rfl, hb⟩
                go_wp2_with fail
                have NW'' := Aside0.mk (NW'.out.below hb)
                clear NW'
                refine hK.out _ _ (below_step q hb) (fun hHeld => ?_)
                clear hK K hb q
                try simp only [List.getElem_toArray, List.getElem_cons_succ, List.getElem_cons_zero, Act.put, List.setIfInBounds_toArray, List.set_cons_zero, List.set_cons_succ]
                refine wpAnyH_take (i := 5) (v := ?_) rfl (by kernel_rfl) (by kernel_rfl) (by kernel_rfl) (fun _ _ _ h => h) (Or.inl ⟨by rfl, ?_⟩) (by assumption) ?_
                rotate_left
                · intro w hSw
                  go_simp
                  with_reducible rfl
                try simp only [List.getElem_toArray, List.getElem_cons_succ, List.getElem_cons_zero, Act.put, List.setIfInBounds_toArray, List.set_cons_zero, List.set_cons_succ]
                refine wpAnyH_take (i := 6) (v := ?_) rfl (by kernel_rfl) (by kernel_rfl) (by kernel_rfl) (fun _ _ _ h => h) (Or.inl ⟨by rfl, ?_⟩) (by assumption) ?_
                rotate_left
                · intro w hSw
                  go_simp
                  with_reducible rfl
                try simp only [List.getElem_toArray, List.getElem_cons_succ, List.getElem_cons_zero, Act.put, List.setIfInBounds_toArray, List.set_cons_zero, List.set_cons_succ]
                refine wpAnyH_take (i := 7) (v := ?_) rfl (by kernel_rfl) (by kernel_rfl) (by kernel_rfl) (fun _ _ _ h => h) (Or.inl ⟨by rfl, ?_⟩) (by assumption) ?_
                rotate_left
                · intro w hSw
                  go_simp
                  with_reducible rfl
                try simp only [List.getElem_toArray, List.getElem_cons_succ, List.getElem_cons_zero, Act.put, List.setIfInBounds_toArray, List.set_cons_zero, List.set_cons_succ]
                refine wpAnyH_ready (rs := [9]) (by kernel_rfl) (by simp) ?_
                refine AllReadyH.cons rfl (fun K hK => ?_) AllReadyH.nil
                have q := hHeld
                clear hHeld
                rw [if_pos (by rfl)]
                refine box_wp_store 45 _ _ rfl V0.heap.size [.int .i64 o1, .int .i64 o2, .int .i64 o3] rfl rfl 45 [.int .i64 0, .int .i64 0, .int .i64 0] NW''.out (by kernel_rfl) rfl (by rfl) ?_
                have NS := Aside0.mk (NW''.out.row [.int .i64 o1, .int .i64 o2, .int .i64 o3])
                refine hK.out _ _ (below_row q HGN.out _) (fun hHeld => ?_)
                clear hK K q
                try simp only [List.getElem_toArray, List.getElem_cons_succ, List.getElem_cons_zero, Act.put, List.setIfInBounds_toArray, List.set_cons_zero, List.set_cons_succ]
                refine wpAnyH_take (i := 10) (v := ?_) rfl (by kernel_rfl) (by kernel_rfl) (by kernel_rfl) (fun _ _ _ h => h) (Or.inl ⟨by rfl, ?_⟩) (by assumption) ?_
                rotate_left
                · intro w hSw
                  go_simp
                  with_reducible rfl
                try simp only [List.getElem_toArray, List.getElem_cons_succ, List.getElem_cons_zero, Act.put, List.setIfInBounds_toArray, List.set_cons_zero, List.set_cons_succ]
                refine wpAnyH_done (by kernel_rfl) ?_ _
                have QB := Aside0.mk hHeld
                clear hHeld
                go_wp2_with fail
                have HBDq := Aside0.mk (HBD_18.out.below QB.out)
                have HBBq := Aside0.mk (HBB_18.out.below QB.out)
                have HS1q := Aside0.mk (HS1_18.out.below QB.out)
                have HS2q := Aside0.mk (HS2.out.below QB.out)
                have HBq := Aside0.mk (below_step HB_18.out QB.out)
                go_meet
                case rel => exact ⟨_, rfl, rfl, NS, HBDq, HBBq, HS1q, HS2q, HBq⟩
          case rest =>
            as_aux_lemma =>
              clear HBD_18 HBB_18 HS1_18 HS2 HB_18
              obtain ⟨gHO1, rfl, rfl, HO1, HBD_19, HBB_19, HS1_19, HS2_19, HB_19⟩ := hcut
              go_upto_region 24 with fail
              go_cut [26, 27] (fun va vb wc => ∃ gx : Nat, va = .pointer (some ⟨gx, 0, none⟩) ∧ vb = .int .i64 c6 ∧ Aside0 (BoxAt wc gx 45 [.int .i64 o1, .int .i64 o2, .int .i64 o3]) ∧ Aside0 (BoxAt wc w2.heap.size 43 [.int .i64 p, .int .i64 k, .int .i8 c, .int .i8 d]) ∧ Aside0 (BoxAt wc (w2.heap.size + 1) 45 [.int .i64 v, .int .i64 u, .int .i64 g]) ∧ Aside0 (BoxAt wc w15.heap.size 45 [.int .i64 s1, .int .i64 s2, .int .i64 s3]) ∧ Aside0 (BoxAt wc w17.heap.size 45 [.int .i64 s1, .int .i64 s2, .int .i64 s3]) ∧ Aside0 (BoxAt wc gHO1 45 [.int .i64 o1, .int .i64 o2, .int .i64 o3]) ∧ Aside0 (Below w.heap.size w wc))
              case first =>
                as_aux_lemma =>
                  refine region_old (by kernel_rfl) (fun V0 hHeld => ?_)
                  refine wpAnyH_take (i := 0) (v := .agg ([.int .i64 p, .int .i64 k, .int .i8 c, .int .i8 d] : List Value).toArray) rfl (by kernel_rfl) (by kernel_rfl) (by kernel_rfl) (fun _ _ _ h => h) (yieldsIf_load_mid (by rfl) _ _ rfl _ _ rfl _ _ (fun w' h => BoxAt.range (HBD_19.out.below h)) Try.underlying43 rfl (by kernel_rfl)) (by assumption) ?_
                  try simp only [List.getElem_toArray, List.getElem_cons_succ, List.getElem_cons_zero, Act.put, List.setIfInBounds_toArray, List.set_cons_zero, List.set_cons_succ]
                  refine wpAnyH_take (i := 1) (v := .agg ([.int .i64 v, .int .i64 u, .int .i64 g] : List Value).toArray) rfl (by kernel_rfl) (by kernel_rfl) (by kernel_rfl) (fun _ _ _ h => h) (yieldsIf_load_mid (by rfl) _ _ rfl _ _ rfl _ _ (fun w' h => BoxAt.range (HBB_19.out.below h)) Try.underlying45 rfl (by kernel_rfl)) (by assumption) ?_
                  try simp only [List.getElem_toArray, List.getElem_cons_succ, List.getElem_cons_zero, Act.put, List.setIfInBounds_toArray, List.set_cons_zero, List.set_cons_succ]
                  refine wpAnyH_take (i := 2) (v := ?_) rfl (by kernel_rfl) (by kernel_rfl) (by kernel_rfl) (fun _ _ _ h => h) (Or.inl ⟨by rfl, ?_⟩) (by assumption) ?_
                  rotate_left
                  · intro w hSw
                    go_simp
                    with_reducible rfl
                  try simp only [List.getElem_toArray, List.getElem_cons_succ, List.getElem_cons_zero, Act.put, List.setIfInBounds_toArray, List.set_cons_zero, List.set_cons_succ]
                  refine wpAnyH_ready (rs := [3, 8]) (by kernel_rfl) (by simp) ?_
                  refine AllReadyH.cons rfl (fun K hK => ?_) (AllReadyH.cons rfl (fun K hK => ?_) AllReadyH.nil)
                  · skip
                    have q := hHeld
                    clear hHeld
                    go_simp
                    refine (laws_a2At.calls _ _ l1 1 30 y _ (Kd.C_below HR1.out (below_step HB_19.out q)) HC1.out EY.out).mono ?_
                    rintro e V1 ⟨rfl, hb⟩
                    replace hb := hb.below
                    go_wp2_with fail
                    refine hK.out _ _ (below_step q hb) (fun hHeld => ?_)
                    clear hK K hb q
                    try simp only [List.getElem_toArray, List.getElem_cons_succ, List.getElem_cons_zero, Act.put, List.setIfInBounds_toArray, List.set_cons_zero, List.set_cons_succ]
                    refine wpAnyH_ready (rs := [4, 8]) (by kernel_rfl) (by simp) ?_
                    refine AllReadyH.cons rfl (fun K hK => ?_) (AllReadyH.cons rfl (fun K hK => ?_) AllReadyH.nil)
                    · skip
                      have q := hHeld
                      clear hHeld
                      go_simp
                      refine (spec_RestBath.calls p k c d v u g y o1 o2 o3 c6 _ R2.out).mono ?_
                      rintro e V2 ⟨rfl, hb⟩
                      go_wp2_with fail
                      refine hK.out _ _ (below_step q hb) (fun hHeld => ?_)
                      clear hK K hb q
                      try simp only [List.getElem_toArray, List.getElem_cons_succ, List.getElem_cons_zero, Act.put, List.setIfInBounds_toArray, List.set_cons_zero, List.set_cons_succ]
                      refine wpAnyH_take (i := 5) (v := ?_) rfl (by kernel_rfl) (by kernel_rfl) (by kernel_rfl) (fun _ _ _ h => h) (Or.inl ⟨by rfl, ?_⟩) (by assumption) ?_
                      rotate_left
                      · intro w hSw
                        go_simp
                        with_reducible rfl
                      try simp only [List.getElem_toArray, List.getElem_cons_succ, List.getElem_cons_zero, Act.put, List.setIfInBounds_toArray, List.set_cons_zero, List.set_cons_succ]
                      refine wpAnyH_take (i := 6) (v := ?_) rfl (by kernel_rfl) (by kernel_rfl) (by kernel_rfl) (fun _ _ _ h => h) (Or.inl ⟨by rfl, ?_⟩) (by assumption) ?_
                      rotate_left
                      · intro w hSw
                        go_simp
                        with_reducible rfl
                      try simp only [List.getElem_toArray, List.getElem_cons_succ, List.getElem_cons_zero, Act.put, List.setIfInBounds_toArray, List.set_cons_zero, List.set_cons_succ]
                      refine wpAnyH_take (i := 7) (v := ?_) rfl (by kernel_rfl) (by kernel_rfl) (by kernel_rfl) (fun _ _ _ h => h) (Or.inl ⟨by rfl, ?_⟩) (by assumption) ?_
                      rotate_left
                      · intro w hSw
                        go_simp
                        with_reducible rfl
                      try simp only [List.getElem_toArray, List.getElem_cons_succ, List.getElem_cons_zero, Act.put, List.setIfInBounds_toArray, List.set_cons_zero, List.set_cons_succ]
                      refine wpAnyH_ready (rs := [8]) (by kernel_rfl) (by simp) ?_
                      refine AllReadyH.cons rfl (fun K hK => ?_) AllReadyH.nil
                      have q := hHeld
                      clear hHeld
                      go_simp
                      have NW := Aside0.mk (BoxAt.new V2 45 [.int .i64 0, .int .i64 0, .int .i64 0])
                      have hb := (Below.refl V2.heap.size V2).alloc (Nat.le_refl _) (.cells ([.int .i64 0, .int .i64 0, .int .i64 0] : List Value).toArray 45)
                      have HGN := Aside0.mk (Below.size q)
                      refine hK.out _ _ (below_step q hb) (fun hHeld => ?_)
                      clear hK K hb q
                      try simp only [List.getElem_toArray, List.getElem_cons_succ, List.getElem_cons_zero, Act.put, List.setIfInBounds_toArray, List.set_cons_zero, List.set_cons_succ]
                      refine wpAnyH_ready (rs := [9]) (by kernel_rfl) (by simp) ?_
                      refine AllReadyH.cons rfl (fun K hK => ?_) AllReadyH.nil
                      have q := hHeld
                      clear hHeld
                      rw [if_pos (by rfl)]
                      refine box_wp_store 45 _ _ rfl V2.heap.size [.int .i64 o1, .int .i64 o2, .int .i64 o3] rfl rfl 45 [.int .i64 0, .int .i64 0, .int .i64 0] NW.out (by kernel_rfl) rfl (by rfl) ?_
                      have NS := Aside0.mk (NW.out.row [.int .i64 o1, .int .i64 o2, .int .i64 o3])
                      refine hK.out _ _ (below_row q HGN.out _) (fun hHeld => ?_)
                      clear hK K q
                      try simp only [List.getElem_toArray, List.getElem_cons_succ, List.getElem_cons_zero, Act.put, List.setIfInBounds_toArray, List.set_cons_zero, List.set_cons_succ]
                      refine wpAnyH_take (i := 10) (v := ?_) rfl (by kernel_rfl) (by kernel_rfl) (by kernel_rfl) (fun _ _ _ h => h) (Or.inl ⟨by rfl, ?_⟩) (by assumption) ?_
                      rotate_left
                      · intro w hSw
                        go_simp
                        with_reducible rfl
                      try simp only [List.getElem_toArray, List.getElem_cons_succ, List.getElem_cons_zero, Act.put, List.setIfInBounds_toArray, List.set_cons_zero, List.set_cons_succ]
                      refine wpAnyH_done (by kernel_rfl) ?_ _
                      have QB := Aside0.mk hHeld
                      clear hHeld
                      go_wp2_with fail
                      have HBDq := Aside0.mk (HBD_19.out.below QB.out)
                      have HBBq := Aside0.mk (HBB_19.out.below QB.out)
                      have HS1q := Aside0.mk (HS1_19.out.below QB.out)
                      have HS2q := Aside0.mk (HS2_19.out.below QB.out)
                      have HO1q := Aside0.mk (HO1.out.below QB.out)
                      have HBq := Aside0.mk (below_step HB_19.out QB.out)
                      go_meet
                      case rel => exact ⟨_, rfl, rfl, NS, HBDq, HBBq, HS1q, HS2q, HO1q, HBq⟩
                    · skip
                      have q := hHeld
                      clear hHeld
                      go_simp
                      have NW := Aside0.mk (BoxAt.new V1 45 [.int .i64 0, .int .i64 0, .int .i64 0])
                      have hb := (Below.refl V1.heap.size V1).alloc (Nat.le_refl _) (.cells ([.int .i64 0, .int .i64 0, .int .i64 0] : List Value).toArray 45)
                      have HGN := Aside0.mk (Below.size q)
                      refine hK.out _ _ (below_step q hb) (fun hHeld => ?_)
                      clear hK K hb q
                      try simp only [List.getElem_toArray, List.getElem_cons_succ, List.getElem_cons_zero, Act.put, List.setIfInBounds_toArray, List.set_cons_zero, List.set_cons_succ]
                      refine wpAnyH_ready (rs := [4]) (by kernel_rfl) (by simp) ?_
                      refine AllReadyH.cons rfl (fun K hK => ?_) AllReadyH.nil
                      have q := hHeld
                      clear hHeld
                      go_simp
                      refine (spec_RestBath.calls p k c d v u g y o1 o2 o3 c6 _ R2.out).mono ?_
                      rintro e V3 ⟨rfl, hb⟩
                      go_wp2_with fail
                      have NW' := Aside0.mk (NW.out.below hb)
                      clear NW
                      refine hK.out _ _ (below_step q hb) (fun hHeld => ?_)
                      clear hK K hb q
                      try simp only [List.getElem_toArray, List.getElem_cons_succ, List.getElem_cons_zero, Act.put, List.setIfInBounds_toArray, List.set_cons_zero, List.set_cons_succ]
                      refine wpAnyH_take (i := 5) (v := ?_) rfl (by kernel_rfl) (by kernel_rfl) (by kernel_rfl) (fun _ _ _ h => h) (Or.inl ⟨by rfl, ?_⟩) (by assumption) ?_
                      rotate_left
                      · intro w hSw
                        go_simp
                        with_reducible rfl
                      try simp only [List.getElem_toArray, List.getElem_cons_succ, List.getElem_cons_zero, Act.put, List.setIfInBounds_toArray, List.set_cons_zero, List.set_cons_succ]
                      refine wpAnyH_take (i := 6) (v := ?_) rfl (by kernel_rfl) (by kernel_rfl) (by kernel_rfl) (fun _ _ _ h => h) (Or.inl ⟨by rfl, ?_⟩) (by assumption) ?_
                      rotate_left
                      · intro w hSw
                        go_simp
                        with_reducible rfl
                      try simp only [List.getElem_toArray, List.getElem_cons_succ, List.getElem_cons_zero, Act.put, List.setIfInBounds_toArray, List.set_cons_zero, List.set_cons_succ]
                      refine wpAnyH_take (i := 7) (v := ?_) rfl (by kernel_rfl) (by kernel_rfl) (by kernel_rfl) (fun _ _ _ h => h) (Or.inl ⟨by rfl, ?_⟩) (by assumption) ?_
                      rotate_left
                      · intro w hSw
                        go_simp
                        with_reducible rfl
                      try simp only [List.getElem_toArray, List.getElem_cons_succ, List.getElem_cons_zero, Act.put, List.setIfInBounds_toArray, List.set_cons_zero, List.set_cons_succ]
                      refine wpAnyH_ready (rs := [9]) (by kernel_rfl) (by simp) ?_
                      refine AllReadyH.cons rfl (fun K hK => ?_) AllReadyH.nil
                      have q := hHeld
                      clear hHeld
                      rw [if_pos (by rfl)]
                      refine box_wp_store 45 _ _ rfl V1.heap.size [.int .i64 o1, .int .i64 o2, .int .i64 o3] rfl rfl 45 [.int .i64 0, .int .i64 0, .int .i64 0] NW'.out (by kernel_rfl) rfl (by rfl) ?_
                      have NS := Aside0.mk (NW'.out.row [.int .i64 o1, .int .i64 o2, .int .i64 o3])
                      refine hK.out _ _ (below_row q HGN.out _) (fun hHeld => ?_)
                      clear hK K q
                      try simp only [List.getElem_toArray, List.getElem_cons_succ, List.getElem_cons_zero, Act.put, List.setIfInBounds_toArray, List.set_cons_zero, List.set_cons_succ]
                      refine wpAnyH_take (i := 10) (v := ?_) rfl (by kernel_rfl) (by kernel_rfl) (by kernel_rfl) (fun _ _ _ h => h) (Or.inl ⟨by rfl, ?_⟩) (by assumption) ?_
                      rotate_left
                      · intro w hSw
                        go_simp
                        with_reducible rfl
                      try simp only [List.getElem_toArray, List.getElem_cons_succ, List.getElem_cons_zero, Act.put, List.setIfInBounds_toArray, List.set_cons_zero, List.set_cons_succ]
                      refine wpAnyH_done (by kernel_rfl) ?_ _
                      have QB := Aside0.mk hHeld
                      clear hHeld
                      go_wp2_with fail
                      have HBDq := Aside0.mk (HBD_19.out.below QB.out)
                      have HBBq := Aside0.mk (HBB_19.out.below QB.out)
                      have HS1q := Aside0.mk (HS1_19.out.below QB.out)
                      have HS2q := Aside0.mk (HS2_19.out.below QB.out)
                      have HO1q := Aside0.mk (HO1.out.below QB.out)
                      have HBq := Aside0.mk (below_step HB_19.out QB.out)
                      go_meet
                      case rel => exact ⟨_, rfl, rfl, NS, HBDq, HBBq, HS1q, HS2q, HO1q, HBq⟩
                  · skip
                    have q := hHeld
                    clear hHeld
                    go_simp
                    have NW := Aside0.mk (BoxAt.new V0 45 [.int .i64 0, .int .i64 0, .int .i64 0])
                    have hb := (Below.refl V0.heap.size V0).alloc (Nat.le_refl _) (.cells ([.int .i64 0, .int .i64 0, .int .i64 0] : List Value).toArray 45)
                    have HGN := Aside0.mk (Below.size q)
                    refine hK.out _ _ (below_step q hb) (fun hHeld => ?_)
                    clear hK K hb q
                    try simp only [List.getElem_toArray, List.getElem_cons_succ, List.getElem_cons_zero, Act.put, List.setIfInBounds_toArray, List.set_cons_zero, List.set_cons_succ]
                    refine wpAnyH_ready (rs := [3]) (by kernel_rfl) (by simp) ?_
                    refine AllReadyH.cons rfl (fun K hK => ?_) AllReadyH.nil
                    have q := hHeld
                    clear hHeld
                    go_simp
                    refine (laws_a2At.calls _ _ l1 1 30 y _ (Kd.C_below HR1.out (below_step HB_19.out q)) HC1.out EY.out).mono ?_
                    rintro e V4 ⟨rfl, hb⟩
                    replace hb := hb.below
                    go_wp2_with fail
                    have NW' := Aside0.mk (NW.out.below hb)
                    clear NW
                    refine hK.out _ _ (below_step q hb) (fun hHeld => ?_)
                    clear hK K hb q
                    try simp only [List.getElem_toArray, List.getElem_cons_succ, List.getElem_cons_zero, Act.put, List.setIfInBounds_toArray, List.set_cons_zero, List.set_cons_succ]
                    refine wpAnyH_ready (rs := [4]) (by kernel_rfl) (by simp) ?_
                    refine AllReadyH.cons rfl (fun K hK => ?_) AllReadyH.nil
                    have q := hHeld
                    clear hHeld
                    go_simp
                    refine (spec_RestBath.calls p k c d v u g y o1 o2 o3 c6 _ R2.out).mono ?_
                    rintro e V5 ⟨rfl, hb⟩
                    go_wp2_with fail
                    have NW'' := Aside0.mk (NW'.out.below hb)
                    clear NW'
                    refine hK.out _ _ (below_step q hb) (fun hHeld => ?_)
                    clear hK K hb q
                    try simp only [List.getElem_toArray, List.getElem_cons_succ, List.getElem_cons_zero, Act.put, List.setIfInBounds_toArray, List.set_cons_zero, List.set_cons_succ]
                    refine wpAnyH_take (i := 5) (v := ?_) rfl (by kernel_rfl) (by kernel_rfl) (by kernel_rfl) (fun _ _ _ h => h) (Or.inl ⟨by rfl, ?_⟩) (by assumption) ?_
                    rotate_left
                    · intro w hSw
                      go_simp
                      with_reducible rfl
                    try simp only [List.getElem_toArray, List.getElem_cons_succ, List.getElem_cons_zero, Act.put, List.setIfInBounds_toArray, List.set_cons_zero, List.set_cons_succ]
                    refine wpAnyH_take (i := 6) (v := ?_) rfl (by kernel_rfl) (by kernel_rfl) (by kernel_rfl) (fun _ _ _ h => h) (Or.inl ⟨by rfl, ?_⟩) (by assumption) ?_
                    rotate_left
                    · intro w hSw
                      go_simp
                      with_reducible rfl
                    try simp only [List.getElem_toArray, List.getElem_cons_succ, List.getElem_cons_zero, Act.put, List.setIfInBounds_toArray, List.set_cons_zero, List.set_cons_succ]
                    refine wpAnyH_take (i := 7) (v := ?_) rfl (by kernel_rfl) (by kernel_rfl) (by kernel_rfl) (fun _ _ _ h => h) (Or.inl ⟨by rfl, ?_⟩) (by assumption) ?_
                    rotate_left
                    · intro w hSw
                      go_simp
                      with_reducible rfl
                    try simp only [List.getElem_toArray, List.getElem_cons_succ, List.getElem_cons_zero, Act.put, List.setIfInBounds_toArray, List.set_cons_zero, List.set_cons_succ]
                    refine wpAnyH_ready (rs := [9]) (by kernel_rfl) (by simp) ?_
                    refine AllReadyH.cons rfl (fun K hK => ?_) AllReadyH.nil
                    have q := hHeld
                    clear hHeld
                    rw [if_pos (by rfl)]
                    refine box_wp_store 45 _ _ rfl V0.heap.size [.int .i64 o1, .int .i64 o2, .int .i64 o3] rfl rfl 45 [.int .i64 0, .int .i64 0, .int .i64 0] NW''.out (by kernel_rfl) rfl (by rfl) ?_
                    have NS := Aside0.mk (NW''.out.row [.int .i64 o1, .int .i64 o2, .int .i64 o3])
                    refine hK.out _ _ (below_row q HGN.out _) (fun hHeld => ?_)
                    clear hK K q
                    try simp only [List.getElem_toArray, List.getElem_cons_succ, List.getElem_cons_zero, Act.put, List.setIfInBounds_toArray, List.set_cons_zero, List.set_cons_succ]
                    refine wpAnyH_take (i := 10) (v := ?_) rfl (by kernel_rfl) (by kernel_rfl) (by kernel_rfl) (fun _ _ _ h => h) (Or.inl ⟨by rfl, ?_⟩) (by assumption) ?_
                    rotate_left
                    · intro w hSw
                      go_simp
                      with_reducible rfl
                    try simp only [List.getElem_toArray, List.getElem_cons_succ, List.getElem_cons_zero, Act.put, List.setIfInBounds_toArray, List.set_cons_zero, List.set_cons_succ]
                    refine wpAnyH_done (by kernel_rfl) ?_ _
                    have QB := Aside0.mk hHeld
                    clear hHeld
                    go_wp2_with fail
                    have HBDq := Aside0.mk (HBD_19.out.below QB.out)
                    have HBBq := Aside0.mk (HBB_19.out.below QB.out)
                    have HS1q := Aside0.mk (HS1_19.out.below QB.out)
                    have HS2q := Aside0.mk (HS2_19.out.below QB.out)
                    have HO1q := Aside0.mk (HO1.out.below QB.out)
                    have HBq := Aside0.mk (below_step HB_19.out QB.out)
                    go_meet
                    case rel => exact ⟨_, rfl, rfl, NS, HBDq, HBBq, HS1q, HS2q, HO1q, HBq⟩
              case rest =>
                as_aux_lemma =>
                  clear HBD_19 HBB_19 HS1_19 HS2_19 HO1 HB_19
                  obtain ⟨gHO2, rfl, rfl, HO2, HBD_20, HBB_20, HS1_20, HS2_20, HO1_20, HB_20⟩ := hcut
                  go_upto_if 204 with (first | (refine box_loadG (by rfl) 45 _ rfl w15.heap.size rfl 45 [.int .i64 s1, .int .i64 s2, .int .i64 s3] HS1_20.out _ Try.underlying45 rfl (by kernel_rfl) ?_) | (refine box_loadG (by rfl) 45 _ rfl w17.heap.size rfl 45 [.int .i64 s1, .int .i64 s2, .int .i64 s3] HS2_20.out _ Try.underlying45 rfl (by kernel_rfl) ?_) | (refine box_loadG (by rfl) 45 _ rfl gHO1 rfl 45 [.int .i64 o1, .int .i64 o2, .int .i64 o3] HO1_20.out _ Try.underlying45 rfl (by kernel_rfl) ?_) | (refine box_loadG (by rfl) 45 _ rfl gHO2 rfl 45 [.int .i64 o1, .int .i64 o2, .int .i64 o3] HO2.out _ Try.underlying45 rfl (by kernel_rfl) ?_))
                  clear HS1_20 HO1_20
                  skip
                  go_cut [] (fun wc => Aside0 (BoxAt wc w2.heap.size 43 [.int .i64 p, .int .i64 k, .int .i8 c, .int .i8 d]) ∧ Aside0 (BoxAt wc (w2.heap.size + 1) 45 [.int .i64 v, .int .i64 u, .int .i64 g]) ∧ Aside0 (BoxAt wc w17.heap.size 45 [.int .i64 s1, .int .i64 s2, .int .i64 s3]) ∧ Aside0 (BoxAt wc gHO2 45 [.int .i64 o1, .int .i64 o2, .int .i64 o3]) ∧ Aside0 (Below w.heap.size w wc))
                  case first =>
                    as_aux_lemma =>
                      by_cases hc : c5 = 0
                      · have t1 : (c5 == 0) = true := beq_iff_eq.mpr hc
                        rw [t1]
                        obtain ⟨h1, h2, W5, h3, h4⟩ := G3.out hc
                        have h5 := K3.out h1
                        have H3 := Aside0.mk h3
                        have t2 : decide (S < W5) = false := decide_eq_false (by omega)
                        have t3 : (s2 != wrap64 (u + ar)) = false := by rw [h2]; simp
                        have t3' : (s2 == wrap64 (u + ar)) = true := by rw [h2]; simp
                        have t4 : (tw != 0) = false := by rw [h5]; rfl
                        have t4' : (tw == 0) = true := by rw [h5]; rfl
                        clear h1 h2 h3 h4 h5 hc
                        go_wp2_with (first | (refine box_load rfl 43 _ rfl w2.heap.size rfl 43 [.int .i64 p, .int .i64 k, .int .i8 c, .int .i8 d] HBD_20.out _ Try.underlying43 rfl (by kernel_rfl) ?_) | (refine box_load rfl 45 _ rfl w17.heap.size rfl 45 [.int .i64 s1, .int .i64 s2, .int .i64 s3] HS2_20.out _ Try.underlying45 rfl (by kernel_rfl) ?_))
                        refine (impl_StrengthOf.calls p k c d s1 s2 s3 W5 0 _ H3.out).mono ?_
                        rintro e w21 ⟨rfl, hb⟩
                        have HBD_21 := Aside0.mk (HBD_20.out.below hb)
                        have HBB_21 := Aside0.mk (HBB_20.out.below hb)
                        have HS2_21 := Aside0.mk (HS2_20.out.below hb)
                        have HO2_21 := Aside0.mk (HO2.out.below hb)
                        have HB_21 := Aside0.mk (below_step HB_20.out hb)
                        clear hb HBD_20 HBB_20 HS2_20 HO2 HB_20
                        have y1 := HS2_21.out.cell 1 (v := .int .i64 s2) rfl
                        have y2 := HBB_21.out.cell 1 (v := .int .i64 u) rfl
                        go_wp2_with fail
                        go_meet
                        case rel => exact ⟨HBD_21, HBB_21, HS2_21, HO2_21, HB_21⟩
                      · have t1 : (c5 == 0) = false := beq_eq_false_iff_ne.mpr hc
                        rw [t1]
                        clear hc
                        go_wp2_with fail
                        go_meet
                        case rel => exact ⟨HBD_20, HBB_20, HS2_20, HO2, HB_20⟩
                  case rest =>
                    as_aux_lemma =>
                      clear HBD_20 HBB_20 HS2_20 HO2 HB_20
                      obtain ⟨HBD_22, HBB_22, HS2_22, HO2_22, HB_22⟩ := hcut
                      clear HS2_22
                      go_upto_if 232 with fail
                      go_cut [] (fun wc => Aside0 (BoxAt wc w2.heap.size 43 [.int .i64 p, .int .i64 k, .int .i8 c, .int .i8 d]) ∧ Aside0 (BoxAt wc (w2.heap.size + 1) 45 [.int .i64 v, .int .i64 u, .int .i64 g]) ∧ Aside0 (BoxAt wc gHO2 45 [.int .i64 o1, .int .i64 o2, .int .i64 o3]) ∧ Aside0 (Below w.heap.size w wc))
                      case first =>
                        as_aux_lemma =>
                          by_cases hc : c6 = 0
                          · have t1 : (c6 == 0) = true := beq_iff_eq.mpr hc
                            rw [t1]
                            obtain ⟨W6, h3, h4⟩ := R3.out hc
                            have H3 := Aside0.mk h3
                            have t2 : decide (S < W6) = false := decide_eq_false (by omega)
                            clear h3 h4 hc
                            go_wp2_with (first | (refine box_load rfl 43 _ rfl w2.heap.size rfl 43 [.int .i64 p, .int .i64 k, .int .i8 c, .int .i8 d] HBD_22.out _ Try.underlying43 rfl (by kernel_rfl) ?_) | (refine box_load rfl 45 _ rfl gHO2 rfl 45 [.int .i64 o1, .int .i64 o2, .int .i64 o3] HO2_22.out _ Try.underlying45 rfl (by kernel_rfl) ?_))
                            refine (impl_StrengthOf.calls p k c d o1 o2 o3 W6 0 _ H3.out).mono ?_
                            rintro e w23 ⟨rfl, hb⟩
                            have HBD_23 := Aside0.mk (HBD_22.out.below hb)
                            have HBB_23 := Aside0.mk (HBB_22.out.below hb)
                            have HO2_23 := Aside0.mk (HO2_22.out.below hb)
                            have HB_23 := Aside0.mk (below_step HB_22.out hb)
                            clear hb HBD_22 HBB_22 HO2_22 HB_22
                            go_wp2_with fail
                            go_meet
                            case rel => exact ⟨HBD_23, HBB_23, HO2_23, HB_23⟩
                          · have t1 : (c6 == 0) = false := beq_eq_false_iff_ne.mpr hc
                            rw [t1]
                            clear hc
                            go_wp2_with fail
                            go_meet
                            case rel => exact ⟨HBD_22, HBB_22, HO2_22, HB_22⟩
                      case rest =>
                        as_aux_lemma =>
                          clear HBD_22 HBB_22 HO2_22 HB_22
                          obtain ⟨HBD_24, HBB_24, HO2_24, HB_24⟩ := hcut
                          clear HO2_24
                          have hwv := HWV.out
                          have y0 := HBB_24.out.cell 0 (v := .int .i64 v) rfl
                          go_wp2_with (first | (refine box_load rfl 43 _ rfl w2.heap.size rfl 43 [.int .i64 p, .int .i64 k, .int .i8 c, .int .i8 d] HBD_24.out _ Try.underlying43 rfl (by kernel_rfl) ?_) | (refine box_load rfl 45 _ rfl (w2.heap.size + 1) rfl 45 [.int .i64 v, .int .i64 u, .int .i64 g] HBB_24.out _ Try.underlying45 rfl (by kernel_rfl) ?_))
                          refine (laws_a2At.calls _ _ l1 2 (v + 1) m _ (Kd.C_below HR1.out HB_24.out) HC1.out EM.out).mono ?_
                          rintro e w25 ⟨rfl, hb⟩
                          replace hb := hb.below
                          have HBD_25 := Aside0.mk (HBD_24.out.below hb)
                          have HBB_25 := Aside0.mk (HBB_24.out.below hb)
                          have HB_25 := Aside0.mk (below_step HB_24.out hb)
                          clear hb HBD_24 HBB_24 HB_24
                          clear hwv y0
                          go_wp2_with (first | (refine box_load rfl 43 _ rfl w2.heap.size rfl 43 [.int .i64 p, .int .i64 k, .int .i8 c, .int .i8 d] HBD_25.out _ Try.underlying43 rfl (by kernel_rfl) ?_) | (refine box_load rfl 45 _ rfl (w2.heap.size + 1) rfl 45 [.int .i64 v, .int .i64 u, .int .i64 g] HBB_25.out _ Try.underlying45 rfl (by kernel_rfl) ?_))
                          refine (impl_Replenish.calls p k c d v u g m v fu fg 0 _ Q1.out).mono ?_
                          rintro e w26 ⟨rfl, hb⟩
                          have HBD_26 := Aside0.mk (HBD_25.out.below hb)
                          have HBB_26 := Aside0.mk (HBB_25.out.below hb)
                          have HB_26 := Aside0.mk (below_step HB_25.out hb)
                          clear hb HBD_25 HBB_25 HB_25
                          obtain ⟨bx, hba⟩ := box_one w26 45 [.int .i64 v, .int .i64 fu, .int .i64 fg]
                          have HF1 := Aside0.mk bx
                          clear bx
                          have HBD_27 := Aside0.mk (HBD_26.out.below hba)
                          have HBB_27 := Aside0.mk (HBB_26.out.below hba)
                          have HB_27 := Aside0.mk (below_step HB_26.out hba)
                          clear hba HBD_26 HBB_26 HB_26
                          go_wp2_with (first | (refine box_load rfl 43 _ rfl w2.heap.size rfl 43 [.int .i64 p, .int .i64 k, .int .i8 c, .int .i8 d] HBD_27.out _ Try.underlying43 rfl (by kernel_rfl) ?_) | (refine box_load rfl 45 _ rfl (w2.heap.size + 1) rfl 45 [.int .i64 v, .int .i64 u, .int .i64 g] HBB_27.out _ Try.underlying45 rfl (by kernel_rfl) ?_))
                          refine (spec_Replenish.calls p k c d v u g m v fu fg 0 _ Q2.out).mono ?_
                          rintro e w28 ⟨rfl, hb⟩
                          have HBD_28 := Aside0.mk (HBD_27.out.below hb)
                          have HBB_28 := Aside0.mk (HBB_27.out.below hb)
                          have HF1_28 := Aside0.mk (HF1.out.below hb)
                          have HB_28 := Aside0.mk (below_step HB_27.out hb)
                          clear hb HBD_27 HBB_27 HF1 HB_27
                          obtain ⟨bx, hba⟩ := box_one w28 45 [.int .i64 v, .int .i64 fu, .int .i64 fg]
                          have HF2 := Aside0.mk bx
                          clear bx
                          have HBD_29 := Aside0.mk (HBD_28.out.below hba)
                          have HBB_29 := Aside0.mk (HBB_28.out.below hba)
                          have HF1_29 := Aside0.mk (HF1_28.out.below hba)
                          have HB_29 := Aside0.mk (below_step HB_28.out hba)
                          clear hba HBD_28 HBB_28 HF1_28 HB_28
                          go_wp2_with (first | (refine box_load rfl 43 _ rfl w2.heap.size rfl 43 [.int .i64 p, .int .i64 k, .int .i8 c, .int .i8 d] HBD_29.out _ Try.underlying43 rfl (by kernel_rfl) ?_) | (refine box_load rfl 45 _ rfl w28.heap.size rfl 45 [.int .i64 v, .int .i64 fu, .int .i64 fg] HF2.out _ Try.underlying45 rfl (by kernel_rfl) ?_))
                          refine (impl_StrengthOf.calls p k c d v fu fg S7 0 _ Q3.out).mono ?_
                          rintro e w30 ⟨rfl, hb⟩
                          have HBD_30 := Aside0.mk (HBD_29.out.below hb)
                          have HBB_30 := Aside0.mk (HBB_29.out.below hb)
                          have HF1_30 := Aside0.mk (HF1_29.out.below hb)
                          have HF2_30 := Aside0.mk (HF2.out.below hb)
                          have HB_30 := Aside0.mk (below_step HB_29.out hb)
                          clear hb HBD_29 HBB_29 HF1_29 HF2 HB_29
                          have hwz := HWZ.out
                          go_wp2_with (first | (refine box_load rfl 43 _ rfl w2.heap.size rfl 43 [.int .i64 p, .int .i64 k, .int .i8 c, .int .i8 d] HBD_30.out _ Try.underlying43 rfl (by kernel_rfl) ?_) | (refine box_load rfl 45 _ rfl (w2.heap.size + 1) rfl 45 [.int .i64 v, .int .i64 u, .int .i64 g] HBB_30.out _ Try.underlying45 rfl (by kernel_rfl) ?_))
                          refine (laws_a2At.calls _ _ l1 3 100 z _ (Kd.C_below HR1.out HB_30.out) HC1.out EZ.out).mono ?_
                          rintro e w31 ⟨rfl, hb⟩
                          replace hb := hb.below
                          have HBD_31 := Aside0.mk (HBD_30.out.below hb)
                          have HBB_31 := Aside0.mk (HBB_30.out.below hb)
                          have HF1_31 := Aside0.mk (HF1_30.out.below hb)
                          have HF2_31 := Aside0.mk (HF2_30.out.below hb)
                          have HB_31 := Aside0.mk (below_step HB_30.out hb)
                          clear hb HBD_30 HBB_30 HF1_30 HF2_30 HB_30
                          obtain ⟨bx, hba⟩ := box_one w31 45 [.int .i64 zz, .int .i64 0, .int .i64 0]
                          have HX := Aside0.mk bx
                          clear bx
                          have HBD_32 := Aside0.mk (HBD_31.out.below hba)
                          have HBB_32 := Aside0.mk (HBB_31.out.below hba)
                          have HF1_32 := Aside0.mk (HF1_31.out.below hba)
                          have HF2_32 := Aside0.mk (HF2_31.out.below hba)
                          have HB_32 := Aside0.mk (below_step HB_31.out hba)
                          clear hba HBD_31 HBB_31 HF1_31 HF2_31 HB_31
                          go_wp2_with (first | (refine box_load rfl 43 _ rfl w2.heap.size rfl 43 [.int .i64 p, .int .i64 k, .int .i8 c, .int .i8 d] HBD_32.out _ Try.underlying43 rfl (by kernel_rfl) ?_) | (refine box_load rfl 45 _ rfl (w2.heap.size + 1) rfl 45 [.int .i64 v, .int .i64 u, .int .i64 g] HBB_32.out _ Try.underlying45 rfl (by kernel_rfl) ?_) | (refine box_load rfl 45 _ rfl w31.heap.size rfl 45 [.int .i64 zz, .int .i64 0, .int .i64 0] HX.out _ Try.underlying45 rfl (by kernel_rfl) ?_))
                          refine (impl_MixBaths.calls p k c d v u g zz 0 0 (v + zz) u mq 0 _ T2.out).mono ?_
                          rintro e w33 ⟨rfl, hb⟩
                          have HBD_33 := Aside0.mk (HBD_32.out.below hb)
                          have HBB_33 := Aside0.mk (HBB_32.out.below hb)
                          have HF1_33 := Aside0.mk (HF1_32.out.below hb)
                          have HF2_33 := Aside0.mk (HF2_32.out.below hb)
                          have HX_33 := Aside0.mk (HX.out.below hb)
                          have HB_33 := Aside0.mk (below_step HB_32.out hb)
                          clear hb HBD_32 HBB_32 HF1_32 HF2_32 HX HB_32
                          clear hwz
                          obtain ⟨bx, hba⟩ := box_one w33 45 [.int .i64 (v + zz), .int .i64 u, .int .i64 mq]
                          have HM1 := Aside0.mk bx
                          clear bx
                          have HBD_34 := Aside0.mk (HBD_33.out.below hba)
                          have HBB_34 := Aside0.mk (HBB_33.out.below hba)
                          have HF1_34 := Aside0.mk (HF1_33.out.below hba)
                          have HF2_34 := Aside0.mk (HF2_33.out.below hba)
                          have HX_34 := Aside0.mk (HX_33.out.below hba)
                          have HB_34 := Aside0.mk (below_step HB_33.out hba)
                          clear hba HBD_33 HBB_33 HF1_33 HF2_33 HX_33 HB_33
                          go_wp2_with (first | (refine box_load rfl 43 _ rfl w2.heap.size rfl 43 [.int .i64 p, .int .i64 k, .int .i8 c, .int .i8 d] HBD_34.out _ Try.underlying43 rfl (by kernel_rfl) ?_) | (refine box_load rfl 45 _ rfl (w2.heap.size + 1) rfl 45 [.int .i64 v, .int .i64 u, .int .i64 g] HBB_34.out _ Try.underlying45 rfl (by kernel_rfl) ?_) | (refine box_load rfl 45 _ rfl w31.heap.size rfl 45 [.int .i64 zz, .int .i64 0, .int .i64 0] HX_34.out _ Try.underlying45 rfl (by kernel_rfl) ?_))
                          refine (spec_MixBaths.calls 60 p k c d v u g zz 0 0 (v + zz) u mq 0 _ T1.out).mono ?_
                          rintro e w35 ⟨rfl, hb⟩
                          have HBD_35 := Aside0.mk (HBD_34.out.below hb)
                          have HBB_35 := Aside0.mk (HBB_34.out.below hb)
                          have HF1_35 := Aside0.mk (HF1_34.out.below hb)
                          have HF2_35 := Aside0.mk (HF2_34.out.below hb)
                          have HX_35 := Aside0.mk (HX_34.out.below hb)
                          have HM1_35 := Aside0.mk (HM1.out.below hb)
                          have HB_35 := Aside0.mk (below_step HB_34.out hb)
                          clear hb HBD_34 HBB_34 HF1_34 HF2_34 HX_34 HM1 HB_34
                          obtain ⟨bx, hba⟩ := box_one w35 45 [.int .i64 (v + zz), .int .i64 u, .int .i64 mq]
                          have HM2 := Aside0.mk bx
                          clear bx
                          have HBD_36 := Aside0.mk (HBD_35.out.below hba)
                          have HBB_36 := Aside0.mk (HBB_35.out.below hba)
                          have HF1_36 := Aside0.mk (HF1_35.out.below hba)
                          have HF2_36 := Aside0.mk (HF2_35.out.below hba)
                          have HX_36 := Aside0.mk (HX_35.out.below hba)
                          have HM1_36 := Aside0.mk (HM1_35.out.below hba)
                          have HB_36 := Aside0.mk (below_step HB_35.out hba)
                          clear hba HBD_35 HBB_35 HF1_35 HF2_35 HX_35 HM1_35 HB_35
                          have hwvz := HWVZ.out
                          have q4 : decide (S ≤ S7) = true := decide_eq_true Q4.out
                          have t3 : decide (mq ≤ g) = true := decide_eq_true T3.out
                          have y0 := HM2.out.cell 1 (v := .int .i64 u) rfl
                          have y1 := HBB_36.out.cell 1 (v := .int .i64 u) rfl
                          have y2 := HM2.out.cell 0 (v := .int .i64 (v + zz)) rfl
                          have y3 := HBB_36.out.cell 0 (v := .int .i64 v) rfl
                          have y4 := HX_36.out.cell 0 (v := .int .i64 zz) rfl
                          have y5 := HM2.out.cell 2 (v := .int .i64 mq) rfl
                          have y6 := HBB_36.out.cell 2 (v := .int .i64 g) rfl
                          go_wp2_with (first | (refine box_loadG (by rfl) 45 _ rfl w26.heap.size rfl 45 [.int .i64 v, .int .i64 fu, .int .i64 fg] HF1_36.out _ Try.underlying45 rfl (by kernel_rfl) ?_) | (refine box_loadG (by rfl) 45 _ rfl w28.heap.size rfl 45 [.int .i64 v, .int .i64 fu, .int .i64 fg] HF2_36.out _ Try.underlying45 rfl (by kernel_rfl) ?_) | (refine box_loadG (by rfl) 45 _ rfl w33.heap.size rfl 45 [.int .i64 (v + zz), .int .i64 u, .int .i64 mq] HM1_36.out _ Try.underlying45 rfl (by kernel_rfl) ?_) | (refine box_loadG (by rfl) 45 _ rfl w35.heap.size rfl 45 [.int .i64 (v + zz), .int .i64 u, .int .i64 mq] HM2.out _ Try.underlying45 rfl (by kernel_rfl) ?_))
                          go_ret
                          exact ⟨rfl, HB_36.out⟩
set_option maxHeartbeats 8000000 in
set_option maxRecDepth 100000 in
theorem laws_FnBaths.arr (w : World) (A0 : Option Addr) (c0 : Nat) (l0 : List Int) (hr0 : Kd.C (Kd.int .u8) w A0 l0.length l0) (hc0 : l0.length ≤ c0) (hs0 : ∀ x ∈ l0, 0 ≤ x ∧ x ≤ 255) (yy0 : l0.length * 1 ≤ 140737488351232) (A1 : Option Addr) (c1 : Nat) (l1 : List Int) (hr1 : Kd.C (Kd.int .u8) w A1 l1.length l1) (hc1 : l1.length ≤ c1) (hs1 : ∀ x ∈ l1, 0 ≤ x ∧ x ≤ 255) (yy1 : l1.length * 1 ≤ 140737488351232) :
    Calls Try.prog 5 #[.slice A0 l0.length c0, .slice A1 l1.length c1] w fun e w' => e = .returned (.bool true) ∧ Below w.heap.size w w' := by
  obtain ⟨b, hb⟩ : ∃ b, laws_a2Long.f l0 l1 = some b := by unfold laws_a2Long.f; split; exact ⟨_, rfl⟩; exact ⟨_, rfl⟩
  cases b with
  | false => exact laws_FnBaths.walk A0 c0 l0 A1 c1 l1 w hr0 hc0 hs0 hr1 hc1 hs1 hb
  | true =>
    have HL := Aside0.mk hb
    have HR0 := Aside0.mk hr0
    have HR1 := Aside0.mk hr1
    have HC0 := Aside0.mk hc0
    have HC1 := Aside0.mk hc1
    clear hb hr0 hr1 hc0 hc1 hs0 hs1 yy0 yy1
    go_enter Try.func5, Try.ntmps5
    go_wp2_with fail
    refine (laws_a2Long.calls _ _ l0 _ _ l1 true _ HR0.out HC0.out HR1.out HC1.out HL.out).mono ?_
    rintro e w1 ⟨rfl, hb⟩
    have HB := Aside0.mk hb.below
    clear hb
    go_wp2_with fail
    go_ret
    exact ⟨rfl, HB.out⟩
end Go.Proofs.Ytldhgldknefjdaa.Q
