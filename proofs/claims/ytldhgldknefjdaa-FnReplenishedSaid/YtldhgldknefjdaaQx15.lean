-- Written by wip/mk.py of this repository (a run of the kit's print with hand-proved leaves added); Lean checks it.
import Derived.Test.YtldhgldknefjdaaQx0
import Derived.Test.YtldhgldknefjdaaQx2
import Derived.Test.YtldhgldknefjdaaQx11
import Derived.Test.YtldhgldknefjdaaQx12
namespace Go.Proofs.Ytldhgldknefjdaa.Q
open Go.RowKit Go.Proofs.YtldhgldknefjdaaW.PrintWords Go.Proofs.YtldhgldknefjdaaW.PrintLast Go.Proofs.YtldhgldknefjdaaW.PrintMore
attribute [local go_sem] max2_int min2_int max_two min_two max_three min_three max_four min_four   -- for this text's walks alone
set_option linter.unusedVariables false
set_option linter.unusedSimpArgs false

/-! ### impl_SheetsFrom: function 44 -/
def impl_SheetsFrom.l0 : Nat → Int → Int → List Int → Int → Int → Int → Int → Int → Int → Int → Int → Int → Option (Int × Int)
  | 0, _, _, _, _, _, _, _, _, _, _, _, _ => none
  | k + 1, x3, x11, x22, x23, x24, x495000, x495001, x495002, x495003, x496000, x496001, x496002 => if x24 < x23 then (if 0 ≤ x24 then (if x24 < (x22.length : Int) then ((impl_Bath_canDevelop.f x496000 x496001 x496002 x495000 x495001 x495002 x495003 (rd x22 x24) x3).bind fun t498 => (if t498 = true then (impl_SheetsFrom.l0 k x3 (wrap64 (x11 + 1)) x22 x23 (wrap64 (x24 + 1)) x495000 x495001 x495002 x495003 x496000 (wrap64 (x496001 + (rd x22 x24))) x496002) else (some (x11, 0)))) else (none)) else (none)) else (some (x11, 0))
def impl_SheetsFrom.f (k : Nat) (a0_0 : Int) (a0_1 : Int) (a0_2 : Int) (a0_3 : Int) (a1_0 : Int) (a1_1 : Int) (a1_2 : Int) (l2 : List Int) (a3 : Int) : Option (Int × Int) := (impl_areasCode.f a0_0 a0_1 a0_2 a0_3 a1_0 a1_1 a1_2 l2 a3).bind fun t496 => (if t496 = 0 then (impl_SheetsFrom.l0 k a3 0 l2 (l2.length : Int) 0 a0_0 a0_1 a0_2 a0_3 a1_0 a1_1 a1_2) else (some (0, t496)))
theorem impl_SheetsFrom.mono_l : ∀ k, (∀ y0 y1 y2 y3 y4 y5 y6 y7 y8 y9 y10 y11, LeO (impl_SheetsFrom.l0 k y0 y1 y2 y3 y4 y5 y6 y7 y8 y9 y10 y11) (impl_SheetsFrom.l0 (k + 1) y0 y1 y2 y3 y4 y5 y6 y7 y8 y9 y10 y11))
  | 0 => fun _ _ _ _ _ _ _ _ _ _ _ _ r h => by simp [impl_SheetsFrom.l0] at h
  | k + 1 => by
    have ih0 := impl_SheetsFrom.mono_l k
    · intro y0 y1 y2 y3 y4 y5 y6 y7 y8 y9 y10 y11
      unfold impl_SheetsFrom.l0
      repeat' first
      | (with_reducible exact ih0 _ _ _ _ _ _ _ _ _ _ _ _)
      | (with_reducible exact LeO.refl _)
      | (with_reducible exact LeO.none _)
      | (with_reducible refine LeO.ite ?_ ?_)
      | (with_reducible refine LeO.bind ?_ (fun _ => ?_))
      | exact ih0 _ _ _ _ _ _ _ _ _ _ _ _
      | exact LeO.none _
      | refine LeO.ite ?_ ?_
      | refine LeO.bind ?_ (fun _ => ?_)
theorem impl_SheetsFrom.mono : ∀ a0 a1 a2 a3 a4 a5 a6 a7 a8 k, LeO (impl_SheetsFrom.f k a0 a1 a2 a3 a4 a5 a6 a7 a8) (impl_SheetsFrom.f (k + 1) a0 a1 a2 a3 a4 a5 a6 a7 a8) := by
  intro a0 a1 a2 a3 a4 a5 a6 a7 a8 k
  have ih0 := impl_SheetsFrom.mono_l k
  unfold impl_SheetsFrom.f
  repeat' first
      | (with_reducible exact ih0 _ _ _ _ _ _ _ _ _ _ _ _)
      | (with_reducible exact LeO.refl _)
      | (with_reducible exact LeO.none _)
      | (with_reducible refine LeO.ite ?_ ?_)
      | (with_reducible refine LeO.bind ?_ (fun _ => ?_))
      | exact ih0 _ _ _ _ _ _ _ _ _ _ _ _
      | exact LeO.none _
      | refine LeO.ite ?_ ?_
      | refine LeO.bind ?_ (fun _ => ?_)
set_option maxHeartbeats 8000000 in
set_option maxRecDepth 100000 in
theorem impl_SheetsFrom.calls (k : Nat) (a0_0 : Int) (a0_1 : Int) (a0_2 : Int) (a0_3 : Int) (a1_0 : Int) (a1_1 : Int) (a1_2 : Int) (A2 : Option Addr) (c2 : Nat) (l2 : List Int) (a3 : Int) (r1 : Int) (r2 : Int) (w : World) (hr2 : Kd.C (Kd.int .i64) w A2 l2.length l2) (hc2 : l2.length ≤ c2) (h : impl_SheetsFrom.f k a0_0 a0_1 a0_2 a0_3 a1_0 a1_1 a1_2 l2 a3 = some (r1, r2)) :
    Calls Try.prog 44 #[.agg #[.int .i64 a0_0, .int .i64 a0_1, .int .i8 a0_2, .int .i8 a0_3], .agg #[.int .i64 a1_0, .int .i64 a1_1, .int .i64 a1_2], .slice A2 l2.length c2, .int .i64 a3] w fun e w' => e = .returned (.tuple #[.int .i64 r1, .int .i64 r2]) ∧ Below w.heap.size w w' := by
  have hu43 := Try.underlying43
  have hu45 := Try.underlying45
  have HR2 := Aside0.mk hr2
  have HC2 := Aside0.mk hc2
  clear hr2 hc2
  have HB := Aside0.mk (Below.refl w.heap.size w)
  have H : ((impl_areasCode.f a0_0 a0_1 a0_2 a0_3 a1_0 a1_1 a1_2 l2 a3).bind fun t496 => (if t496 = 0 then (impl_SheetsFrom.l0 k a3 0 l2 (l2.length : Int) 0 a0_0 a0_1 a0_2 a0_3 a1_0 a1_1 a1_2) else (some (0, t496)))) = some (r1, r2) := h
  clear h
  replace H := Option.bind_eq_some_iff.mp H
  obtain ⟨t496, A50, H⟩ := H
  replace H : (if t496 = 0 then (impl_SheetsFrom.l0 k a3 0 l2 (l2.length : Int) 0 a0_0 a0_1 a0_2 a0_3 a1_0 a1_1 a1_2) else (some (0, t496))) = some (r1, r2) := H
  have A5 := Aside0.mk A50
  clear A50
  by_cases c6 : t496 = 0
  · rw [if_pos c6] at H
    have c6b0 : (t496 == 0) = true := beq_iff_eq.mpr c6
    have c6b1 : (t496 != 0) = false := bne_eq_false_iff_eq.mpr c6
    clear c6
    have H' := Aside0.mk H
    clear H
    go_enter Try.func44, Try.ntmps44
    go_wp2_with (first | ((with_reducible refine gate_dst (N := 4) rfl ?_); refine box_event ?hg (N := 4) ?hd (cs := #[.int .i64 a0_0, .int .i64 a0_1, .int .i8 a0_2, .int .i8 a0_3]) (t := 43) ?hr ?_; (case hd => rfl); (case hg => rfl); (case hr => first | (go_simp; done) | (go_simp; rfl)); intro gb494 hg w7 hbox hb; have n0_ := Aside0.mk (below_step HB.out hb); have n1_ := Aside0.mk (hbox); have n2_ := Aside0.mk ((by rw [hg]; exact (below_size HB.out) : w.heap.size ≤ gb494)); have n3_ := Aside0.mk ((by rw [hg]; exact (below_size HB.out) : w.heap.size ≤ gb494)); clear HB; have HB := n0_; have BK494 := n1_; have GW494 := n2_; have GE494 := n3_; clear n0_ n1_ n2_ n3_; clear hb hbox hg) | ((with_reducible refine gate_dst (N := 5) rfl ?_); refine box_event ?hg (N := 5) ?hd (cs := #[.int .i64 a1_0, .int .i64 a1_1, .int .i64 a1_2]) (t := 45) ?hr ?_; (case hd => rfl); (case hg => rfl); (case hr => first | (go_simp; done) | (go_simp; rfl)); intro gb495 hg w8 hbox hb; have n0_ := Aside0.mk (blk_below BK494.out hb); have n1_ := Aside0.mk (below_step HB.out hb); have n2_ := Aside0.mk (hbox); have n3_ := Aside0.mk ((by rw [hg]; exact (below_size HB.out) : w.heap.size ≤ gb495)); have n4_ := Aside0.mk ((by rw [hg]; exact (below_size HB.out) : w.heap.size ≤ gb495)); have n5_ := Aside0.mk ((by rw [hg]; exact Nat.ne_of_lt (blk_lt BK494.out) : gb494 ≠ gb495)); have n6_ := Aside0.mk ((by rw [hg]; exact Nat.ne_of_gt (blk_lt BK494.out) : gb495 ≠ gb494)); clear BK494; clear HB; have BK494 := n0_; have HB := n1_; have BK495 := n2_; have GW495 := n3_; have GE495 := n4_; have NB494_495 := n5_; have NB495_494 := n6_; clear n0_ n1_ n2_ n3_ n4_ n5_ n6_; clear hb hbox hg; have hnb9 := NB494_495.out; have hnc9 := NB495_494.out; have hcz10_0 := blk_c BK494.out 0 rfl; have hcz10_1 := blk_c BK494.out 1 rfl; have hcz10_2 := blk_c BK494.out 2 rfl; have hcz10_3 := blk_c BK494.out 3 rfl; have hfz10_0 := blk_frozen BK494.out 0; have hfz10_1 := blk_frozen BK494.out 1; have hfz10_2 := blk_frozen BK494.out 2; have hfz10_3 := blk_frozen BK494.out 3; have hcz11_0 := blk_c BK495.out 0 rfl; have hcz11_1 := blk_c BK495.out 1 rfl; have hcz11_2 := blk_c BK495.out 2 rfl; have hfz11_0 := blk_frozen BK495.out 0; have hfz11_1 := blk_frozen BK495.out 1; have hfz11_2 := blk_frozen BK495.out 2) | ((with_reducible refine gate_callee (f := 76) rfl ?_); refine goesL_ (some 18) rfl rfl Try.func76 (by kernel_rfl) rfl #[.agg #[.int .i64 a0_0, .int .i64 a0_1, .int .i8 a0_2, .int .i8 a0_3], .agg #[.int .i64 a1_0, .int .i64 a1_1, .int .i64 a1_2], .slice A2 l2.length c2, .int .i64 a3] rfl (by (try simp only [List.map_toArray, List.map_cons, List.map_nil]); first | done | rfl | (simp only [List.length_drop, List.length_take]; rfl)) ?_; (with_reducible refine (impl_areasCode.calls a0_0 a0_1 a0_2 a0_3 a1_0 a1_1 a1_2 _ _ l2 a3 t496 _ ?side1 ?side2 A5.out).mono ?_); (case side1 => repeat (first | exact (Kd.C_below HR2.out HB.out) | (with_reducible refine Kd.C_alloc ?_ _) | (with_reducible refine Kd.C_drewN ?_ _) | (with_reducible refine Kd.C_drew ?_))); (case side2 => exact HC2.out); rintro e w12 ⟨rfl, hb⟩; refine ⟨_, rfl, ?_⟩; have n0_ := Aside0.mk (blk_below BK494.out hb); have n1_ := Aside0.mk (blk_below BK495.out hb); have n2_ := Aside0.mk (below_step HB.out hb); clear BK494; clear BK495; clear HB; have BK494 := n0_; have BK495 := n1_; have HB := n2_; clear n0_ n1_ n2_; (try clear hb); (try clear hb2); (try clear hk); (try clear hi)))
    go_loopg [11, 24] k (fun kq v11 v24 w' => ∃ (x11_1 : Int) (x24_1 : Int) (x496001_1 : Int), v11 = .int .i64 x11_1 ∧ v24 = .int .i64 x24_1 ∧ Aside0 (impl_SheetsFrom.l0 kq a3 x11_1 l2 (l2.length : Int) x24_1 a0_0 a0_1 a0_2 a0_3 a1_0 x496001_1 a1_2 = some (r1, r2)) ∧ Aside0 (kq ≤ k) ∧ Aside0 (w'.heap[gb494]? = some (.cells #[.int .i64 a0_0, .int .i64 a0_1, .int .i8 a0_2, .int .i8 a0_3] 43 (0, 0))) ∧ Aside0 (w'.heap[gb495]? = some (.cells #[.int .i64 a1_0, .int .i64 x496001_1, .int .i64 a1_2] 45 (0, 0))) ∧ Aside0 (Below w.heap.size w w'))
    case atStart => exact ⟨(0), (0), (a1_1), (by first | rfl | (simp; done) | (simp [*]; done)), (by first | rfl | (simp; done) | (simp [*]; done)), H', ⟨Nat.le_refl _⟩, ⟨by (with_reducible repeat (first | refine blk_drewN ?_ _ | refine blk_drew ?_ | refine blk_alloc ?_ _)); exact BK494.out⟩, ⟨by (with_reducible repeat (first | refine blk_drewN ?_ _ | refine blk_drew ?_ | refine blk_alloc ?_ _)); exact BK495.out⟩, ⟨by repeat (first | (with_reducible first | exact HB.out | apply below_alloc | apply pw_below_drewN | apply below_drew1 | refine below_set ?_ GE494.out | refine below_set ?_ GE495.out) | exact HB.out)⟩⟩
    case round =>
      clear H'
      try clear c2
      try clear p2
      try clear c4
      try clear c6
      try clear c6b0
      try clear c6b1
      try clear c7
      try clear c9
      try clear hcz10_0
      try clear hcz10_1
      try clear hcz10_2
      try clear hcz10_3
      try clear hcz11_0
      try clear hcz11_1
      try clear hcz11_2
      try clear hfz10_0
      try clear hfz10_1
      try clear hfz10_2
      try clear hfz10_3
      try clear hfz11_0
      try clear hfz11_1
      try clear hfz11_2
      obtain ⟨x11_1, x24_1, x496001_1, rfl, rfl, HA, HK1, BK494, BK495, HB⟩ := hrel
      cases gk with
      | zero => exact absurd HA.out (by simp [impl_SheetsFrom.l0])
      | succ k1 =>
        have H := HA.out
        clear HA
        simp only [impl_SheetsFrom.l0] at H
        by_cases c13 : x24_1 < (l2.length : Int)
        · rw [if_pos c13] at H
          have c13b0 : decide (x24_1 < (l2.length : Int)) = true := decide_eq_true c13
          clear c13
          by_cases c14 : 0 ≤ x24_1
          · rw [if_pos c14] at H
            have c14b0 : decide (0 ≤ x24_1) = true := decide_eq_true c14
            clear c14
            by_cases c15 : x24_1 < (l2.length : Int)
            · rw [if_pos c15] at H
              have c15b0 : decide (x24_1 < (l2.length : Int)) = true := decide_eq_true c15
              clear c15
              replace H := Option.bind_eq_some_iff.mp H
              obtain ⟨t498, A160, H⟩ := H
              replace H : (if t498 = true then (impl_SheetsFrom.l0 k1 a3 (wrap64 (x11_1 + 1)) l2 (l2.length : Int) (wrap64 (x24_1 + 1)) a0_0 a0_1 a0_2 a0_3 a1_0 (wrap64 (x496001_1 + (rd l2 x24_1))) a1_2) else (some (x11_1, 0))) = some (r1, r2) := H
              have A16 := Aside0.mk A160
              clear A160
              by_cases c17 : t498 = true
              · subst c17
                have H1 : (impl_SheetsFrom.l0 k1 a3 (wrap64 (x11_1 + 1)) l2 (l2.length : Int) (wrap64 (x24_1 + 1)) a0_0 a0_1 a0_2 a0_3 a1_0 (wrap64 (x496001_1 + (rd l2 x24_1))) a1_2) = some (r1, r2) := by rw [if_pos rfl] at H; exact H
                clear H
                have H := H1
                clear H1
                have H' := Aside0.mk H
                clear H
                have p497 : 0 ≤ (x24_1 : Int) := of_decide_eq_true (by first | (with_reducible assumption) | assumption)
                have q497 : x24_1 < (l2.length : Int) := of_decide_eq_true (by first | (with_reducible assumption) | assumption)
                obtain ⟨ad497, e497, hx497_0⟩ := Kd.at_int HR2.out x24_1 p497 q497
                cases e497
                replace hx497_0 := (HB.out.cell (World.block_lt_of_cell? w _ hx497_0)).trans hx497_0
                replace p497 := eq_true p497
                replace q497 := eq_true q497
                have hnb18 := NB495_494.out
                have hnc18 := NB494_495.out
                have hcz19_0 := blk_c BK495.out 0 rfl
                have hcz19_1 := blk_c BK495.out 1 rfl
                have hcz19_2 := blk_c BK495.out 2 rfl
                have hfz19_0 := blk_frozen BK495.out 0
                have hfz19_1 := blk_frozen BK495.out 1
                have hfz19_2 := blk_frozen BK495.out 2
                have hcz20_0 := blk_c BK494.out 0 rfl
                have hcz20_1 := blk_c BK494.out 1 rfl
                have hcz20_2 := blk_c BK494.out 2 rfl
                have hcz20_3 := blk_c BK494.out 3 rfl
                have hfz20_0 := blk_frozen BK494.out 0
                have hfz20_1 := blk_frozen BK494.out 1
                have hfz20_2 := blk_frozen BK494.out 2
                have hfz20_3 := blk_frozen BK494.out 3
                go_wp2_with (first | ((with_reducible refine gate_callee (f := 73) rfl ?_); refine goesL_ (some 32) rfl rfl Try.func73 (by kernel_rfl) rfl #[.agg #[.int .i64 a1_0, .int .i64 x496001_1, .int .i64 a1_2], .agg #[.int .i64 a0_0, .int .i64 a0_1, .int .i8 a0_2, .int .i8 a0_3], .int .i64 (rd l2 x24_1), .int .i64 a3] rfl (by (try simp only [List.map_toArray, List.map_cons, List.map_nil]); first | done | rfl | (simp only [List.length_drop, List.length_take]; rfl)) ?_; (with_reducible refine (impl_Bath_canDevelop.calls a1_0 x496001_1 a1_2 a0_0 a0_1 a0_2 a0_3 (rd l2 x24_1) a3 true _ A16.out).mono ?_); rintro e w21 ⟨rfl, hb⟩; refine ⟨_, rfl, ?_⟩; have n0_ := Aside0.mk (blk_below BK494.out hb); have n1_ := Aside0.mk (blk_below BK495.out hb); have n2_ := Aside0.mk (below_step HB.out hb); clear BK494; clear BK495; clear HB; have BK494 := n0_; have BK495 := n1_; have HB := n2_; clear n0_ n1_ n2_; (try clear hb); (try clear hb2); (try clear hk); (try clear hi); have hcz22_0 := blk_c BK495.out 0 rfl; have hcz22_1 := blk_c BK495.out 1 rfl; have hcz22_2 := blk_c BK495.out 2 rfl; have hfz22_0 := blk_frozen BK495.out 0; have hfz22_1 := blk_frozen BK495.out 1; have hfz22_2 := blk_frozen BK495.out 2))
                go_roundg k1
                case measure => have := HK1.out; omega
                case rel => exact ⟨(wrap64 (x11_1 + 1)), (wrap64 (x24_1 + 1)), (wrap64 (x496001_1 + (rd l2 x24_1))), (by first | rfl | (simp; done) | (simp [*]; done)), (by first | rfl | (simp; done) | (simp [*]; done)), H', ⟨by have := HK1.out; omega⟩, ⟨by (with_reducible repeat (first | refine blk_drewN ?_ _ | refine blk_drew ?_ | refine blk_alloc ?_ _)); refine blk_far ?_ NB494_495.out _; (with_reducible repeat (first | refine blk_drewN ?_ _ | refine blk_drew ?_ | refine blk_alloc ?_ _)); exact BK494.out⟩, ⟨by (with_reducible repeat (first | refine blk_drewN ?_ _ | refine blk_drew ?_ | refine blk_alloc ?_ _)); refine blk_put (cs := #[.int .i64 a1_0, .int .i64 x496001_1, .int .i64 a1_2]) ?_ 1 _ rfl; (with_reducible repeat (first | refine blk_drewN ?_ _ | refine blk_drew ?_ | refine blk_alloc ?_ _)); exact BK495.out⟩, ⟨by repeat (first | (with_reducible first | exact HB.out | apply below_alloc | apply pw_below_drewN | apply below_drew1 | refine below_set ?_ GE494.out | refine below_set ?_ GE495.out) | exact HB.out)⟩⟩
              · replace c17 := Bool.eq_false_iff.mpr c17
                subst c17
                have H1 : (some (x11_1, 0)) = some (r1, r2) := by rw [if_neg (show ¬ (false = true) by decide)] at H; exact H
                clear H
                have H := H1
                clear H1
                simp only [Option.some.injEq, Prod.mk.injEq] at H
                obtain ⟨rfl, rfl⟩ := H
                have p497 : 0 ≤ (x24_1 : Int) := of_decide_eq_true (by first | (with_reducible assumption) | assumption)
                have q497 : x24_1 < (l2.length : Int) := of_decide_eq_true (by first | (with_reducible assumption) | assumption)
                obtain ⟨ad497, e497, hx497_0⟩ := Kd.at_int HR2.out x24_1 p497 q497
                cases e497
                replace hx497_0 := (HB.out.cell (World.block_lt_of_cell? w _ hx497_0)).trans hx497_0
                replace p497 := eq_true p497
                replace q497 := eq_true q497
                have hnb23 := NB495_494.out
                have hnc23 := NB494_495.out
                have hcz24_0 := blk_c BK495.out 0 rfl
                have hcz24_1 := blk_c BK495.out 1 rfl
                have hcz24_2 := blk_c BK495.out 2 rfl
                have hfz24_0 := blk_frozen BK495.out 0
                have hfz24_1 := blk_frozen BK495.out 1
                have hfz24_2 := blk_frozen BK495.out 2
                have hcz25_0 := blk_c BK494.out 0 rfl
                have hcz25_1 := blk_c BK494.out 1 rfl
                have hcz25_2 := blk_c BK494.out 2 rfl
                have hcz25_3 := blk_c BK494.out 3 rfl
                have hfz25_0 := blk_frozen BK494.out 0
                have hfz25_1 := blk_frozen BK494.out 1
                have hfz25_2 := blk_frozen BK494.out 2
                have hfz25_3 := blk_frozen BK494.out 3
                go_wp2_with (first | ((with_reducible refine gate_callee (f := 73) rfl ?_); refine goesL_ (some 32) rfl rfl Try.func73 (by kernel_rfl) rfl #[.agg #[.int .i64 a1_0, .int .i64 x496001_1, .int .i64 a1_2], .agg #[.int .i64 a0_0, .int .i64 a0_1, .int .i8 a0_2, .int .i8 a0_3], .int .i64 (rd l2 x24_1), .int .i64 a3] rfl (by (try simp only [List.map_toArray, List.map_cons, List.map_nil]); first | done | rfl | (simp only [List.length_drop, List.length_take]; rfl)) ?_; (with_reducible refine (impl_Bath_canDevelop.calls a1_0 x496001_1 a1_2 a0_0 a0_1 a0_2 a0_3 (rd l2 x24_1) a3 false _ A16.out).mono ?_); rintro e w26 ⟨rfl, hb⟩; refine ⟨_, rfl, ?_⟩; have n0_ := Aside0.mk (blk_below BK494.out hb); have n1_ := Aside0.mk (blk_below BK495.out hb); have n2_ := Aside0.mk (below_step HB.out hb); clear BK494; clear BK495; clear HB; have BK494 := n0_; have BK495 := n1_; have HB := n2_; clear n0_ n1_ n2_; (try clear hb); (try clear hb2); (try clear hk); (try clear hi)))
                go_ret2
                exact ⟨by first | rfl | (simp [errW_none, errW_some] <;> rfl) | (simp [*, errW_none, errW_some] <;> rfl), by repeat (first | (with_reducible first | exact HB.out | apply below_alloc | apply pw_below_drewN | apply below_drew1 | refine below_set ?_ GE494.out | refine below_set ?_ GE495.out) | exact HB.out)⟩
            · rw [if_neg c15] at H
              exact absurd H (by simp)
          · rw [if_neg c14] at H
            exact absurd H (by simp)
        · rw [if_neg c13] at H
          have c13b0 : decide (x24_1 < (l2.length : Int)) = false := decide_eq_false c13
          clear c13
          simp only [Option.some.injEq, Prod.mk.injEq] at H
          obtain ⟨rfl, rfl⟩ := H
          go_wp2
          go_ret2
          exact ⟨by first | rfl | (simp [errW_none, errW_some] <;> rfl) | (simp [*, errW_none, errW_some] <;> rfl), by repeat (first | (with_reducible first | exact HB.out | apply below_alloc | apply pw_below_drewN | apply below_drew1 | refine below_set ?_ GE494.out | refine below_set ?_ GE495.out) | exact HB.out)⟩
  · rw [if_neg c6] at H
    have c6b0 : (t496 == 0) = false := beq_eq_false_iff_ne.mpr c6
    have c6b1 : (t496 != 0) = true := bne_iff_ne.mpr c6
    simp only [Option.some.injEq, Prod.mk.injEq] at H
    obtain ⟨rfl, rfl⟩ := H
    go_enter Try.func44, Try.ntmps44
    go_wp2_with (first | ((with_reducible refine gate_dst (N := 4) rfl ?_); refine box_event ?hg (N := 4) ?hd (cs := #[.int .i64 a0_0, .int .i64 a0_1, .int .i8 a0_2, .int .i8 a0_3]) (t := 43) ?hr ?_; (case hd => rfl); (case hg => rfl); (case hr => first | (go_simp; done) | (go_simp; rfl)); intro gb494 hg w27 hbox hb; have n0_ := Aside0.mk (below_step HB.out hb); have n1_ := Aside0.mk (hbox); have n2_ := Aside0.mk ((by rw [hg]; exact (below_size HB.out) : w.heap.size ≤ gb494)); have n3_ := Aside0.mk ((by rw [hg]; exact (below_size HB.out) : w.heap.size ≤ gb494)); clear HB; have HB := n0_; have BK494 := n1_; have GW494 := n2_; have GE494 := n3_; clear n0_ n1_ n2_ n3_; clear hb hbox hg) | ((with_reducible refine gate_dst (N := 5) rfl ?_); refine box_event ?hg (N := 5) ?hd (cs := #[.int .i64 a1_0, .int .i64 a1_1, .int .i64 a1_2]) (t := 45) ?hr ?_; (case hd => rfl); (case hg => rfl); (case hr => first | (go_simp; done) | (go_simp; rfl)); intro gb495 hg w28 hbox hb; have n0_ := Aside0.mk (blk_below BK494.out hb); have n1_ := Aside0.mk (below_step HB.out hb); have n2_ := Aside0.mk (hbox); have n3_ := Aside0.mk ((by rw [hg]; exact (below_size HB.out) : w.heap.size ≤ gb495)); have n4_ := Aside0.mk ((by rw [hg]; exact (below_size HB.out) : w.heap.size ≤ gb495)); have n5_ := Aside0.mk ((by rw [hg]; exact Nat.ne_of_lt (blk_lt BK494.out) : gb494 ≠ gb495)); have n6_ := Aside0.mk ((by rw [hg]; exact Nat.ne_of_gt (blk_lt BK494.out) : gb495 ≠ gb494)); clear BK494; clear HB; have BK494 := n0_; have HB := n1_; have BK495 := n2_; have GW495 := n3_; have GE495 := n4_; have NB494_495 := n5_; have NB495_494 := n6_; clear n0_ n1_ n2_ n3_ n4_ n5_ n6_; clear hb hbox hg; have hnb29 := NB494_495.out; have hnc29 := NB495_494.out; have hcz30_0 := blk_c BK494.out 0 rfl; have hcz30_1 := blk_c BK494.out 1 rfl; have hcz30_2 := blk_c BK494.out 2 rfl; have hcz30_3 := blk_c BK494.out 3 rfl; have hfz30_0 := blk_frozen BK494.out 0; have hfz30_1 := blk_frozen BK494.out 1; have hfz30_2 := blk_frozen BK494.out 2; have hfz30_3 := blk_frozen BK494.out 3; have hcz31_0 := blk_c BK495.out 0 rfl; have hcz31_1 := blk_c BK495.out 1 rfl; have hcz31_2 := blk_c BK495.out 2 rfl; have hfz31_0 := blk_frozen BK495.out 0; have hfz31_1 := blk_frozen BK495.out 1; have hfz31_2 := blk_frozen BK495.out 2) | ((with_reducible refine gate_callee (f := 76) rfl ?_); refine goesL_ (some 18) rfl rfl Try.func76 (by kernel_rfl) rfl #[.agg #[.int .i64 a0_0, .int .i64 a0_1, .int .i8 a0_2, .int .i8 a0_3], .agg #[.int .i64 a1_0, .int .i64 a1_1, .int .i64 a1_2], .slice A2 l2.length c2, .int .i64 a3] rfl (by (try simp only [List.map_toArray, List.map_cons, List.map_nil]); first | done | rfl | (simp only [List.length_drop, List.length_take]; rfl)) ?_; (with_reducible refine (impl_areasCode.calls a0_0 a0_1 a0_2 a0_3 a1_0 a1_1 a1_2 _ _ l2 a3 t496 _ ?side1 ?side2 A5.out).mono ?_); (case side1 => repeat (first | exact (Kd.C_below HR2.out HB.out) | (with_reducible refine Kd.C_alloc ?_ _) | (with_reducible refine Kd.C_drewN ?_ _) | (with_reducible refine Kd.C_drew ?_))); (case side2 => exact HC2.out); rintro e w32 ⟨rfl, hb⟩; refine ⟨_, rfl, ?_⟩; have n0_ := Aside0.mk (blk_below BK494.out hb); have n1_ := Aside0.mk (blk_below BK495.out hb); have n2_ := Aside0.mk (below_step HB.out hb); clear BK494; clear BK495; clear HB; have BK494 := n0_; have BK495 := n1_; have HB := n2_; clear n0_ n1_ n2_; (try clear hb); (try clear hb2); (try clear hk); (try clear hi)))
    go_ret2
    exact ⟨by first | rfl | (simp [errW_none, errW_some] <;> rfl) | (simp [*, errW_none, errW_some] <;> rfl), by repeat (first | (with_reducible first | exact HB.out | apply below_alloc | apply pw_below_drewN | apply below_drew1 | refine below_set ?_ GE494.out | refine below_set ?_ GE495.out) | exact HB.out)⟩

end Go.Proofs.Ytldhgldknefjdaa.Q
