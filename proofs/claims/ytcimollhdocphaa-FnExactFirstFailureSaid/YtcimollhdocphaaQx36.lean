-- Written by wip/mk.py of this repository (a run of the kit's print with hand-proved leaves added); Lean checks it.
import Derived.Test.YtcimollhdocphaaQx0
import Derived.Test.YtcimollhdocphaaQx20
import Derived.Test.YtcimollhdocphaaQx21
import Derived.Test.YtcimollhdocphaaQx22
import Derived.Test.YtcimollhdocphaaQx23
namespace Go.Proofs.Ytcimollhdocphaa.Q
open Go.RowKit Go.Proofs.YtcimollhdocphaaW.PrintWords Go.Proofs.YtcimollhdocphaaW.PrintLast Go.Proofs.YtcimollhdocphaaW.PrintMore
attribute [local go_sem] max2_int min2_int max_two min_two max_three min_three max_four min_four   -- for this text's walks alone
set_option linter.unusedVariables false
set_option linter.unusedSimpArgs false

/-! ### spec_FirstFailure: function 70 -/
def spec_FirstFailure.f (k : Nat) (a0_0 : Int) (a0_1 : Int) (a0_2 : Int) (a0_3 : Int) (a1_0 : Int) (a1_1 : Int) (a1_2 : Int) (l2 : List (S161)) : Option (Int × Int) := (spec_l04Listed.f k a0_0 a0_1 a0_2 a0_3 a1_0 a1_1 a1_2 l2).bind fun t651 => (if t651 = 0 then ((spec_l04Do.f k a0_0 a0_1 a0_2 a0_3 a1_0 a1_1 a1_2 l2).bind fun bt652 => (if bt652.2 = 0 then (some (0, 6)) else (some (wrap64 ((bt652.1.length : Int) - 1), 0)))) else (some (0, t651)))
theorem spec_FirstFailure.mono : ∀ a0 a1 a2 a3 a4 a5 a6 a7 k, LeO (spec_FirstFailure.f k a0 a1 a2 a3 a4 a5 a6 a7) (spec_FirstFailure.f (k + 1) a0 a1 a2 a3 a4 a5 a6 a7) := by
  intro a0 a1 a2 a3 a4 a5 a6 a7 k
  unfold spec_FirstFailure.f
  repeat' first
      | (with_reducible exact spec_l04Do.mono _ _ _ _ _ _ _ _ _)
      | (with_reducible exact spec_l04Listed.mono _ _ _ _ _ _ _ _ _)
      | (with_reducible exact LeO.refl _)
      | (with_reducible exact LeO.none _)
      | (with_reducible refine LeO.ite ?_ ?_)
      | (with_reducible refine LeO.bind ?_ (fun _ => ?_))
      | exact spec_l04Do.mono _ _ _ _ _ _ _ _ _
      | exact spec_l04Listed.mono _ _ _ _ _ _ _ _ _
      | exact LeO.none _
      | refine LeO.ite ?_ ?_
      | refine LeO.bind ?_ (fun _ => ?_)
set_option maxHeartbeats 8000000 in
set_option maxRecDepth 100000 in
theorem spec_FirstFailure.calls (k : Nat) (a0_0 : Int) (a0_1 : Int) (a0_2 : Int) (a0_3 : Int) (a1_0 : Int) (a1_1 : Int) (a1_2 : Int) (A2 : Option Addr) (c2 : Nat) (l2 : List (S161)) (r1 : Int) (r2 : Int) (w : World) (hr2 : Kd.C k161 w A2 l2.length l2) (hc2 : l2.length ≤ c2) (h : spec_FirstFailure.f k a0_0 a0_1 a0_2 a0_3 a1_0 a1_1 a1_2 l2 = some (r1, r2)) :
    Calls Try.prog 70 #[.agg #[.int .i64 a0_0, .int .i64 a0_1, .int .i8 a0_2, .int .i8 a0_3], .agg #[.int .i64 a1_0, .int .i64 a1_1, .int .i64 a1_2], .slice A2 l2.length c2] w fun e w' => e = .returned (.tuple #[.int .i64 r1, .int .i64 r2]) ∧ Below w.heap.size w w' := by
  have hu71 := Try.underlying71
  have hu73 := Try.underlying73
  have HR2 := Aside0.mk hr2
  have HC2 := Aside0.mk hc2
  clear hr2 hc2
  have HB := Aside0.mk (Below.refl w.heap.size w)
  have H : ((spec_l04Listed.f k a0_0 a0_1 a0_2 a0_3 a1_0 a1_1 a1_2 l2).bind fun t651 => (if t651 = 0 then ((spec_l04Do.f k a0_0 a0_1 a0_2 a0_3 a1_0 a1_1 a1_2 l2).bind fun bt652 => (if bt652.2 = 0 then (some (0, 6)) else (some (wrap64 ((bt652.1.length : Int) - 1), 0)))) else (some (0, t651)))) = some (r1, r2) := h
  clear h
  replace H := Option.bind_eq_some_iff.mp H
  obtain ⟨t651, A40, H⟩ := H
  replace H : (if t651 = 0 then ((spec_l04Do.f k a0_0 a0_1 a0_2 a0_3 a1_0 a1_1 a1_2 l2).bind fun bt652 => (if bt652.2 = 0 then (some (0, 6)) else (some (wrap64 ((bt652.1.length : Int) - 1), 0)))) else (some (0, t651))) = some (r1, r2) := H
  have A4 := Aside0.mk A40
  clear A40
  by_cases c5 : t651 = 0
  · rw [if_pos c5] at H
    have c5b0 : (t651 == 0) = true := beq_iff_eq.mpr c5
    have c5b1 : (t651 != 0) = false := bne_eq_false_iff_eq.mpr c5
    clear c5
    replace H := Option.bind_eq_some_iff.mp H
    obtain ⟨⟨t652, t655⟩, A60, H⟩ := H
    replace H : (if t655 = 0 then (some (0, 6)) else (some (wrap64 ((t652.length : Int) - 1), 0))) = some (r1, r2) := H
    have A6 := Aside0.mk A60
    clear A60
    by_cases c7 : t655 = 0
    · rw [if_pos c7] at H
      have c7b0 : (t655 == 0) = true := beq_iff_eq.mpr c7
      have c7b1 : (t655 != 0) = false := bne_eq_false_iff_eq.mpr c7
      clear c7
      simp only [Option.some.injEq, Prod.mk.injEq] at H
      obtain ⟨rfl, rfl⟩ := H
      go_enter Try.func70, Try.ntmps70
      go_wp2_with (first | ((with_reducible refine gate_dst (N := 3) rfl ?_); refine box_event ?hg (N := 3) ?hd (cs := #[.int .i64 a0_0, .int .i64 a0_1, .int .i8 a0_2, .int .i8 a0_3]) (t := 71) ?hr ?_; (case hd => rfl); (case hg => rfl); (case hr => first | (go_simp; done) | (go_simp; rfl)); intro gb649 hg w8 hbox hb; have n0_ := Aside0.mk (below_step HB.out hb); have n1_ := Aside0.mk (hbox); have n2_ := Aside0.mk ((by rw [hg]; exact (below_size HB.out) : w.heap.size ≤ gb649)); have n3_ := Aside0.mk ((by rw [hg]; exact (below_size HB.out) : w.heap.size ≤ gb649)); clear HB; have HB := n0_; have BK649 := n1_; have GW649 := n2_; have GE649 := n3_; clear n0_ n1_ n2_ n3_; clear hb hbox hg) | ((with_reducible refine gate_dst (N := 4) rfl ?_); refine box_event ?hg (N := 4) ?hd (cs := #[.int .i64 a1_0, .int .i64 a1_1, .int .i64 a1_2]) (t := 73) ?hr ?_; (case hd => rfl); (case hg => rfl); (case hr => first | (go_simp; done) | (go_simp; rfl)); intro gb650 hg w9 hbox hb; have n0_ := Aside0.mk (blk_below BK649.out hb); have n1_ := Aside0.mk (below_step HB.out hb); have n2_ := Aside0.mk (hbox); have n3_ := Aside0.mk ((by rw [hg]; exact (below_size HB.out) : w.heap.size ≤ gb650)); have n4_ := Aside0.mk ((by rw [hg]; exact (below_size HB.out) : w.heap.size ≤ gb650)); have n5_ := Aside0.mk ((by rw [hg]; exact Nat.ne_of_lt (blk_lt BK649.out) : gb649 ≠ gb650)); have n6_ := Aside0.mk ((by rw [hg]; exact Nat.ne_of_gt (blk_lt BK649.out) : gb650 ≠ gb649)); clear BK649; clear HB; have BK649 := n0_; have HB := n1_; have BK650 := n2_; have GW650 := n3_; have GE650 := n4_; have NB649_650 := n5_; have NB650_649 := n6_; clear n0_ n1_ n2_ n3_ n4_ n5_ n6_; clear hb hbox hg; have hnb10 := NB649_650.out; have hnc10 := NB650_649.out; have hcz11_0 : w9.cell? ⟨gb649, 0, none⟩ = some (.int .i64 a0_0) := (blk_cell BK649.out 0).trans rfl; have hcz11_1 : w9.cell? ⟨gb649, 1, none⟩ = some (.int .i64 a0_1) := (blk_cell BK649.out 1).trans rfl; have hcz11_2 : w9.cell? ⟨gb649, 2, none⟩ = some (.int .i8 a0_2) := (blk_cell BK649.out 2).trans rfl; have hcz11_3 : w9.cell? ⟨gb649, 3, none⟩ = some (.int .i8 a0_3) := (blk_cell BK649.out 3).trans rfl; have hfz11_0 := blk_frozen BK649.out 0; have hfz11_1 := blk_frozen BK649.out 1; have hfz11_2 := blk_frozen BK649.out 2; have hfz11_3 := blk_frozen BK649.out 3; have hcz12_0 : w9.cell? ⟨gb650, 0, none⟩ = some (.int .i64 a1_0) := (blk_cell BK650.out 0).trans rfl; have hcz12_1 : w9.cell? ⟨gb650, 1, none⟩ = some (.int .i64 a1_1) := (blk_cell BK650.out 1).trans rfl; have hcz12_2 : w9.cell? ⟨gb650, 2, none⟩ = some (.int .i64 a1_2) := (blk_cell BK650.out 2).trans rfl; have hfz12_0 := blk_frozen BK650.out 0; have hfz12_1 := blk_frozen BK650.out 1; have hfz12_2 := blk_frozen BK650.out 2) | ((with_reducible refine gate_callee (f := 142) rfl ?_); refine goesL_ (some 14) rfl rfl Try.func142 (by kernel_rfl) rfl #[.agg #[.int .i64 a0_0, .int .i64 a0_1, .int .i8 a0_2, .int .i8 a0_3], .agg #[.int .i64 a1_0, .int .i64 a1_1, .int .i64 a1_2], .slice A2 l2.length c2] rfl (by (try simp only [List.map_toArray, List.map_cons, List.map_nil]); first | done | rfl | (simp only [List.length_drop, List.length_take]; rfl)) ?_; (with_reducible refine (spec_l04Listed.calls k a0_0 a0_1 a0_2 a0_3 a1_0 a1_1 a1_2 _ _ l2 t651 _ ?side1 ?side2 A4.out).mono ?_); (case side1 => repeat (first | exact (Kd.C_below HR2.out HB.out) | (with_reducible refine Kd.C_alloc ?_ _) | (with_reducible refine Kd.C_drewN ?_ _) | (with_reducible refine Kd.C_drew ?_))); (case side2 => exact HC2.out); rintro e w13 ⟨rfl, hb⟩; refine ⟨_, rfl, ?_⟩; have n0_ := Aside0.mk (blk_below BK649.out hb); have n1_ := Aside0.mk (blk_below BK650.out hb); have n2_ := Aside0.mk (below_step HB.out hb); clear BK649; clear BK650; clear HB; have BK649 := n0_; have BK650 := n1_; have HB := n2_; clear n0_ n1_ n2_; (try clear hb); (try clear hb2); (try clear hk); (try clear hi); have hcz14_0 : w13.cell? ⟨gb649, 0, none⟩ = some (.int .i64 a0_0) := (blk_cell BK649.out 0).trans rfl; have hcz14_1 : w13.cell? ⟨gb649, 1, none⟩ = some (.int .i64 a0_1) := (blk_cell BK649.out 1).trans rfl; have hcz14_2 : w13.cell? ⟨gb649, 2, none⟩ = some (.int .i8 a0_2) := (blk_cell BK649.out 2).trans rfl; have hcz14_3 : w13.cell? ⟨gb649, 3, none⟩ = some (.int .i8 a0_3) := (blk_cell BK649.out 3).trans rfl; have hfz14_0 := blk_frozen BK649.out 0; have hfz14_1 := blk_frozen BK649.out 1; have hfz14_2 := blk_frozen BK649.out 2; have hfz14_3 := blk_frozen BK649.out 3; have hcz15_0 : w13.cell? ⟨gb650, 0, none⟩ = some (.int .i64 a1_0) := (blk_cell BK650.out 0).trans rfl; have hcz15_1 : w13.cell? ⟨gb650, 1, none⟩ = some (.int .i64 a1_1) := (blk_cell BK650.out 1).trans rfl; have hcz15_2 : w13.cell? ⟨gb650, 2, none⟩ = some (.int .i64 a1_2) := (blk_cell BK650.out 2).trans rfl; have hfz15_0 := blk_frozen BK650.out 0; have hfz15_1 := blk_frozen BK650.out 1; have hfz15_2 := blk_frozen BK650.out 2) | ((with_reducible refine gate_callee (f := 143) rfl ?_); refine goesL_ (some 22) rfl rfl Try.func143 (by kernel_rfl) rfl #[.agg #[.int .i64 a0_0, .int .i64 a0_1, .int .i8 a0_2, .int .i8 a0_3], .agg #[.int .i64 a1_0, .int .i64 a1_1, .int .i64 a1_2], .slice A2 l2.length c2] rfl (by (try simp only [List.map_toArray, List.map_cons, List.map_nil]); first | done | rfl | (simp only [List.length_drop, List.length_take]; rfl)) ?_; (with_reducible refine (spec_l04Do.calls k a0_0 a0_1 a0_2 a0_3 a1_0 a1_1 a1_2 _ _ l2 t652 t655 _ ?side1 ?side2 A6.out).mono ?_); (case side1 => repeat (first | exact (Kd.C_below HR2.out HB.out) | (with_reducible refine Kd.C_alloc ?_ _) | (with_reducible refine Kd.C_drewN ?_ _) | (with_reducible refine Kd.C_drew ?_))); (case side2 => exact HC2.out); rintro e w16 ⟨v653, rfl, ho0, hb⟩; refine ⟨_, rfl, ?_⟩; have n0_ := Aside0.mk (Kd.R_lower (Kd.R_newB ho0 BK650.out) (below_size HB.out)); have n1_ := Aside0.mk (blk_below BK649.out hb); have n2_ := Aside0.mk (blk_below BK650.out hb); have n3_ := Aside0.mk (below_step HB.out hb); clear BK649; clear BK650; clear HB; have HO654 := n0_; have BK649 := n1_; have BK650 := n2_; have HB := n3_; clear n0_ n1_ n2_ n3_; (try clear hb); (try clear hb2); (try clear hk); (try clear hi); (try clear ho0)))
      go_ret2
      exact ⟨by first | rfl | (simp [errW_none, errW_some] <;> rfl) | (simp [*, errW_none, errW_some] <;> rfl), by repeat (first | (with_reducible first | exact HB.out | apply below_alloc | apply pw_below_drewN | apply below_drew1 | refine below_set ?_ GE649.out | refine below_set ?_ GE650.out) | exact HB.out)⟩
    · rw [if_neg c7] at H
      have c7b0 : (t655 == 0) = false := beq_eq_false_iff_ne.mpr c7
      have c7b1 : (t655 != 0) = true := bne_iff_ne.mpr c7
      simp only [Option.some.injEq, Prod.mk.injEq] at H
      obtain ⟨rfl, rfl⟩ := H
      go_enter Try.func70, Try.ntmps70
      go_wp2_with (first | ((with_reducible refine gate_dst (N := 3) rfl ?_); refine box_event ?hg (N := 3) ?hd (cs := #[.int .i64 a0_0, .int .i64 a0_1, .int .i8 a0_2, .int .i8 a0_3]) (t := 71) ?hr ?_; (case hd => rfl); (case hg => rfl); (case hr => first | (go_simp; done) | (go_simp; rfl)); intro gb649 hg w17 hbox hb; have n0_ := Aside0.mk (below_step HB.out hb); have n1_ := Aside0.mk (hbox); have n2_ := Aside0.mk ((by rw [hg]; exact (below_size HB.out) : w.heap.size ≤ gb649)); have n3_ := Aside0.mk ((by rw [hg]; exact (below_size HB.out) : w.heap.size ≤ gb649)); clear HB; have HB := n0_; have BK649 := n1_; have GW649 := n2_; have GE649 := n3_; clear n0_ n1_ n2_ n3_; clear hb hbox hg) | ((with_reducible refine gate_dst (N := 4) rfl ?_); refine box_event ?hg (N := 4) ?hd (cs := #[.int .i64 a1_0, .int .i64 a1_1, .int .i64 a1_2]) (t := 73) ?hr ?_; (case hd => rfl); (case hg => rfl); (case hr => first | (go_simp; done) | (go_simp; rfl)); intro gb650 hg w18 hbox hb; have n0_ := Aside0.mk (blk_below BK649.out hb); have n1_ := Aside0.mk (below_step HB.out hb); have n2_ := Aside0.mk (hbox); have n3_ := Aside0.mk ((by rw [hg]; exact (below_size HB.out) : w.heap.size ≤ gb650)); have n4_ := Aside0.mk ((by rw [hg]; exact (below_size HB.out) : w.heap.size ≤ gb650)); have n5_ := Aside0.mk ((by rw [hg]; exact Nat.ne_of_lt (blk_lt BK649.out) : gb649 ≠ gb650)); have n6_ := Aside0.mk ((by rw [hg]; exact Nat.ne_of_gt (blk_lt BK649.out) : gb650 ≠ gb649)); clear BK649; clear HB; have BK649 := n0_; have HB := n1_; have BK650 := n2_; have GW650 := n3_; have GE650 := n4_; have NB649_650 := n5_; have NB650_649 := n6_; clear n0_ n1_ n2_ n3_ n4_ n5_ n6_; clear hb hbox hg; have hnb19 := NB649_650.out; have hnc19 := NB650_649.out; have hcz20_0 : w18.cell? ⟨gb649, 0, none⟩ = some (.int .i64 a0_0) := (blk_cell BK649.out 0).trans rfl; have hcz20_1 : w18.cell? ⟨gb649, 1, none⟩ = some (.int .i64 a0_1) := (blk_cell BK649.out 1).trans rfl; have hcz20_2 : w18.cell? ⟨gb649, 2, none⟩ = some (.int .i8 a0_2) := (blk_cell BK649.out 2).trans rfl; have hcz20_3 : w18.cell? ⟨gb649, 3, none⟩ = some (.int .i8 a0_3) := (blk_cell BK649.out 3).trans rfl; have hfz20_0 := blk_frozen BK649.out 0; have hfz20_1 := blk_frozen BK649.out 1; have hfz20_2 := blk_frozen BK649.out 2; have hfz20_3 := blk_frozen BK649.out 3; have hcz21_0 : w18.cell? ⟨gb650, 0, none⟩ = some (.int .i64 a1_0) := (blk_cell BK650.out 0).trans rfl; have hcz21_1 : w18.cell? ⟨gb650, 1, none⟩ = some (.int .i64 a1_1) := (blk_cell BK650.out 1).trans rfl; have hcz21_2 : w18.cell? ⟨gb650, 2, none⟩ = some (.int .i64 a1_2) := (blk_cell BK650.out 2).trans rfl; have hfz21_0 := blk_frozen BK650.out 0; have hfz21_1 := blk_frozen BK650.out 1; have hfz21_2 := blk_frozen BK650.out 2) | ((with_reducible refine gate_callee (f := 142) rfl ?_); refine goesL_ (some 14) rfl rfl Try.func142 (by kernel_rfl) rfl #[.agg #[.int .i64 a0_0, .int .i64 a0_1, .int .i8 a0_2, .int .i8 a0_3], .agg #[.int .i64 a1_0, .int .i64 a1_1, .int .i64 a1_2], .slice A2 l2.length c2] rfl (by (try simp only [List.map_toArray, List.map_cons, List.map_nil]); first | done | rfl | (simp only [List.length_drop, List.length_take]; rfl)) ?_; (with_reducible refine (spec_l04Listed.calls k a0_0 a0_1 a0_2 a0_3 a1_0 a1_1 a1_2 _ _ l2 t651 _ ?side1 ?side2 A4.out).mono ?_); (case side1 => repeat (first | exact (Kd.C_below HR2.out HB.out) | (with_reducible refine Kd.C_alloc ?_ _) | (with_reducible refine Kd.C_drewN ?_ _) | (with_reducible refine Kd.C_drew ?_))); (case side2 => exact HC2.out); rintro e w22 ⟨rfl, hb⟩; refine ⟨_, rfl, ?_⟩; have n0_ := Aside0.mk (blk_below BK649.out hb); have n1_ := Aside0.mk (blk_below BK650.out hb); have n2_ := Aside0.mk (below_step HB.out hb); clear BK649; clear BK650; clear HB; have BK649 := n0_; have BK650 := n1_; have HB := n2_; clear n0_ n1_ n2_; (try clear hb); (try clear hb2); (try clear hk); (try clear hi); have hcz23_0 : w22.cell? ⟨gb649, 0, none⟩ = some (.int .i64 a0_0) := (blk_cell BK649.out 0).trans rfl; have hcz23_1 : w22.cell? ⟨gb649, 1, none⟩ = some (.int .i64 a0_1) := (blk_cell BK649.out 1).trans rfl; have hcz23_2 : w22.cell? ⟨gb649, 2, none⟩ = some (.int .i8 a0_2) := (blk_cell BK649.out 2).trans rfl; have hcz23_3 : w22.cell? ⟨gb649, 3, none⟩ = some (.int .i8 a0_3) := (blk_cell BK649.out 3).trans rfl; have hfz23_0 := blk_frozen BK649.out 0; have hfz23_1 := blk_frozen BK649.out 1; have hfz23_2 := blk_frozen BK649.out 2; have hfz23_3 := blk_frozen BK649.out 3; have hcz24_0 : w22.cell? ⟨gb650, 0, none⟩ = some (.int .i64 a1_0) := (blk_cell BK650.out 0).trans rfl; have hcz24_1 : w22.cell? ⟨gb650, 1, none⟩ = some (.int .i64 a1_1) := (blk_cell BK650.out 1).trans rfl; have hcz24_2 : w22.cell? ⟨gb650, 2, none⟩ = some (.int .i64 a1_2) := (blk_cell BK650.out 2).trans rfl; have hfz24_0 := blk_frozen BK650.out 0; have hfz24_1 := blk_frozen BK650.out 1; have hfz24_2 := blk_frozen BK650.out 2) | ((with_reducible refine gate_callee (f := 143) rfl ?_); refine goesL_ (some 22) rfl rfl Try.func143 (by kernel_rfl) rfl #[.agg #[.int .i64 a0_0, .int .i64 a0_1, .int .i8 a0_2, .int .i8 a0_3], .agg #[.int .i64 a1_0, .int .i64 a1_1, .int .i64 a1_2], .slice A2 l2.length c2] rfl (by (try simp only [List.map_toArray, List.map_cons, List.map_nil]); first | done | rfl | (simp only [List.length_drop, List.length_take]; rfl)) ?_; (with_reducible refine (spec_l04Do.calls k a0_0 a0_1 a0_2 a0_3 a1_0 a1_1 a1_2 _ _ l2 t652 t655 _ ?side1 ?side2 A6.out).mono ?_); (case side1 => repeat (first | exact (Kd.C_below HR2.out HB.out) | (with_reducible refine Kd.C_alloc ?_ _) | (with_reducible refine Kd.C_drewN ?_ _) | (with_reducible refine Kd.C_drew ?_))); (case side2 => exact HC2.out); rintro e w25 ⟨v653, rfl, ho0, hb⟩; refine ⟨_, rfl, ?_⟩; have n0_ := Aside0.mk (Kd.R_lower (Kd.R_newB ho0 BK650.out) (below_size HB.out)); have n1_ := Aside0.mk (blk_below BK649.out hb); have n2_ := Aside0.mk (blk_below BK650.out hb); have n3_ := Aside0.mk (below_step HB.out hb); clear BK649; clear BK650; clear HB; have HO654 := n0_; have BK649 := n1_; have BK650 := n2_; have HB := n3_; clear n0_ n1_ n2_ n3_; (try clear hb); (try clear hb2); (try clear hk); (try clear hi); (try clear ho0); obtain ⟨Ao26, co26, eo26⟩ := Kd.R_slice HO654.out; subst eo26))
      go_ret2
      exact ⟨by first | rfl | (simp [errW_none, errW_some] <;> rfl) | (simp [*, errW_none, errW_some] <;> rfl), by repeat (first | (with_reducible first | exact HB.out | apply below_alloc | apply pw_below_drewN | apply below_drew1 | refine below_set ?_ GE649.out | refine below_set ?_ GE650.out) | exact HB.out)⟩
  · rw [if_neg c5] at H
    have c5b0 : (t651 == 0) = false := beq_eq_false_iff_ne.mpr c5
    have c5b1 : (t651 != 0) = true := bne_iff_ne.mpr c5
    simp only [Option.some.injEq, Prod.mk.injEq] at H
    obtain ⟨rfl, rfl⟩ := H
    go_enter Try.func70, Try.ntmps70
    go_wp2_with (first | ((with_reducible refine gate_dst (N := 3) rfl ?_); refine box_event ?hg (N := 3) ?hd (cs := #[.int .i64 a0_0, .int .i64 a0_1, .int .i8 a0_2, .int .i8 a0_3]) (t := 71) ?hr ?_; (case hd => rfl); (case hg => rfl); (case hr => first | (go_simp; done) | (go_simp; rfl)); intro gb649 hg w27 hbox hb; have n0_ := Aside0.mk (below_step HB.out hb); have n1_ := Aside0.mk (hbox); have n2_ := Aside0.mk ((by rw [hg]; exact (below_size HB.out) : w.heap.size ≤ gb649)); have n3_ := Aside0.mk ((by rw [hg]; exact (below_size HB.out) : w.heap.size ≤ gb649)); clear HB; have HB := n0_; have BK649 := n1_; have GW649 := n2_; have GE649 := n3_; clear n0_ n1_ n2_ n3_; clear hb hbox hg) | ((with_reducible refine gate_dst (N := 4) rfl ?_); refine box_event ?hg (N := 4) ?hd (cs := #[.int .i64 a1_0, .int .i64 a1_1, .int .i64 a1_2]) (t := 73) ?hr ?_; (case hd => rfl); (case hg => rfl); (case hr => first | (go_simp; done) | (go_simp; rfl)); intro gb650 hg w28 hbox hb; have n0_ := Aside0.mk (blk_below BK649.out hb); have n1_ := Aside0.mk (below_step HB.out hb); have n2_ := Aside0.mk (hbox); have n3_ := Aside0.mk ((by rw [hg]; exact (below_size HB.out) : w.heap.size ≤ gb650)); have n4_ := Aside0.mk ((by rw [hg]; exact (below_size HB.out) : w.heap.size ≤ gb650)); have n5_ := Aside0.mk ((by rw [hg]; exact Nat.ne_of_lt (blk_lt BK649.out) : gb649 ≠ gb650)); have n6_ := Aside0.mk ((by rw [hg]; exact Nat.ne_of_gt (blk_lt BK649.out) : gb650 ≠ gb649)); clear BK649; clear HB; have BK649 := n0_; have HB := n1_; have BK650 := n2_; have GW650 := n3_; have GE650 := n4_; have NB649_650 := n5_; have NB650_649 := n6_; clear n0_ n1_ n2_ n3_ n4_ n5_ n6_; clear hb hbox hg; have hnb29 := NB649_650.out; have hnc29 := NB650_649.out; have hcz30_0 : w28.cell? ⟨gb649, 0, none⟩ = some (.int .i64 a0_0) := (blk_cell BK649.out 0).trans rfl; have hcz30_1 : w28.cell? ⟨gb649, 1, none⟩ = some (.int .i64 a0_1) := (blk_cell BK649.out 1).trans rfl; have hcz30_2 : w28.cell? ⟨gb649, 2, none⟩ = some (.int .i8 a0_2) := (blk_cell BK649.out 2).trans rfl; have hcz30_3 : w28.cell? ⟨gb649, 3, none⟩ = some (.int .i8 a0_3) := (blk_cell BK649.out 3).trans rfl; have hfz30_0 := blk_frozen BK649.out 0; have hfz30_1 := blk_frozen BK649.out 1; have hfz30_2 := blk_frozen BK649.out 2; have hfz30_3 := blk_frozen BK649.out 3; have hcz31_0 : w28.cell? ⟨gb650, 0, none⟩ = some (.int .i64 a1_0) := (blk_cell BK650.out 0).trans rfl; have hcz31_1 : w28.cell? ⟨gb650, 1, none⟩ = some (.int .i64 a1_1) := (blk_cell BK650.out 1).trans rfl; have hcz31_2 : w28.cell? ⟨gb650, 2, none⟩ = some (.int .i64 a1_2) := (blk_cell BK650.out 2).trans rfl; have hfz31_0 := blk_frozen BK650.out 0; have hfz31_1 := blk_frozen BK650.out 1; have hfz31_2 := blk_frozen BK650.out 2) | ((with_reducible refine gate_callee (f := 142) rfl ?_); refine goesL_ (some 14) rfl rfl Try.func142 (by kernel_rfl) rfl #[.agg #[.int .i64 a0_0, .int .i64 a0_1, .int .i8 a0_2, .int .i8 a0_3], .agg #[.int .i64 a1_0, .int .i64 a1_1, .int .i64 a1_2], .slice A2 l2.length c2] rfl (by (try simp only [List.map_toArray, List.map_cons, List.map_nil]); first | done | rfl | (simp only [List.length_drop, List.length_take]; rfl)) ?_; (with_reducible refine (spec_l04Listed.calls k a0_0 a0_1 a0_2 a0_3 a1_0 a1_1 a1_2 _ _ l2 t651 _ ?side1 ?side2 A4.out).mono ?_); (case side1 => repeat (first | exact (Kd.C_below HR2.out HB.out) | (with_reducible refine Kd.C_alloc ?_ _) | (with_reducible refine Kd.C_drewN ?_ _) | (with_reducible refine Kd.C_drew ?_))); (case side2 => exact HC2.out); rintro e w32 ⟨rfl, hb⟩; refine ⟨_, rfl, ?_⟩; have n0_ := Aside0.mk (blk_below BK649.out hb); have n1_ := Aside0.mk (blk_below BK650.out hb); have n2_ := Aside0.mk (below_step HB.out hb); clear BK649; clear BK650; clear HB; have BK649 := n0_; have BK650 := n1_; have HB := n2_; clear n0_ n1_ n2_; (try clear hb); (try clear hb2); (try clear hk); (try clear hi)))
    go_ret2
    exact ⟨by first | rfl | (simp [errW_none, errW_some] <;> rfl) | (simp [*, errW_none, errW_some] <;> rfl), by repeat (first | (with_reducible first | exact HB.out | apply below_alloc | apply pw_below_drewN | apply below_drew1 | refine below_set ?_ GE649.out | refine below_set ?_ GE650.out) | exact HB.out)⟩

/-! ### impl_FirstFailure: function 74 -/
def impl_FirstFailure.f (k : Nat) (a0_0 : Int) (a0_1 : Int) (a0_2 : Int) (a0_3 : Int) (a1_0 : Int) (a1_1 : Int) (a1_2 : Int) (l2 : List (S161)) : Option (Int × Int) := (impl_actsCode.f a0_0 a0_1 a0_2 a0_3 a1_0 a1_1 a1_2 l2).bind fun t715 => (if t715 = 0 then ((impl_doAll.f k a0_0 a0_1 a0_2 a0_3 a1_0 a1_1 a1_2 l2).bind fun bt716 => (if bt716.2.2.2.2.2 = 0 then (some (0, 6)) else (some (bt716.2.2.2.1, 0)))) else (some (0, t715)))
theorem impl_FirstFailure.mono : ∀ a0 a1 a2 a3 a4 a5 a6 a7 k, LeO (impl_FirstFailure.f k a0 a1 a2 a3 a4 a5 a6 a7) (impl_FirstFailure.f (k + 1) a0 a1 a2 a3 a4 a5 a6 a7) := by
  intro a0 a1 a2 a3 a4 a5 a6 a7 k
  unfold impl_FirstFailure.f
  repeat' first
      | (with_reducible exact impl_doAll.mono _ _ _ _ _ _ _ _ _)
      | (with_reducible exact LeO.refl _)
      | (with_reducible exact LeO.none _)
      | (with_reducible refine LeO.ite ?_ ?_)
      | (with_reducible refine LeO.bind ?_ (fun _ => ?_))
      | exact impl_doAll.mono _ _ _ _ _ _ _ _ _
      | exact LeO.none _
      | refine LeO.ite ?_ ?_
      | refine LeO.bind ?_ (fun _ => ?_)
set_option maxHeartbeats 8000000 in
set_option maxRecDepth 100000 in
theorem impl_FirstFailure.calls (k : Nat) (a0_0 : Int) (a0_1 : Int) (a0_2 : Int) (a0_3 : Int) (a1_0 : Int) (a1_1 : Int) (a1_2 : Int) (A2 : Option Addr) (c2 : Nat) (l2 : List (S161)) (r1 : Int) (r2 : Int) (w : World) (hr2 : Kd.C k161 w A2 l2.length l2) (hc2 : l2.length ≤ c2) (h : impl_FirstFailure.f k a0_0 a0_1 a0_2 a0_3 a1_0 a1_1 a1_2 l2 = some (r1, r2)) :
    Calls Try.prog 74 #[.agg #[.int .i64 a0_0, .int .i64 a0_1, .int .i8 a0_2, .int .i8 a0_3], .agg #[.int .i64 a1_0, .int .i64 a1_1, .int .i64 a1_2], .slice A2 l2.length c2] w fun e w' => e = .returned (.tuple #[.int .i64 r1, .int .i64 r2]) ∧ Below w.heap.size w w' := by
  have hu71 := Try.underlying71
  have hu73 := Try.underlying73
  have HR2 := Aside0.mk hr2
  have HC2 := Aside0.mk hc2
  clear hr2 hc2
  have HB := Aside0.mk (Below.refl w.heap.size w)
  have H : ((impl_actsCode.f a0_0 a0_1 a0_2 a0_3 a1_0 a1_1 a1_2 l2).bind fun t715 => (if t715 = 0 then ((impl_doAll.f k a0_0 a0_1 a0_2 a0_3 a1_0 a1_1 a1_2 l2).bind fun bt716 => (if bt716.2.2.2.2.2 = 0 then (some (0, 6)) else (some (bt716.2.2.2.1, 0)))) else (some (0, t715)))) = some (r1, r2) := h
  clear h
  replace H := Option.bind_eq_some_iff.mp H
  obtain ⟨t715, A40, H⟩ := H
  replace H : (if t715 = 0 then ((impl_doAll.f k a0_0 a0_1 a0_2 a0_3 a1_0 a1_1 a1_2 l2).bind fun bt716 => (if bt716.2.2.2.2.2 = 0 then (some (0, 6)) else (some (bt716.2.2.2.1, 0)))) else (some (0, t715))) = some (r1, r2) := H
  have A4 := Aside0.mk A40
  clear A40
  by_cases c5 : t715 = 0
  · rw [if_pos c5] at H
    have c5b0 : (t715 == 0) = true := beq_iff_eq.mpr c5
    have c5b1 : (t715 != 0) = false := bne_eq_false_iff_eq.mpr c5
    clear c5
    replace H := Option.bind_eq_some_iff.mp H
    obtain ⟨⟨t716, t717, t718, t719, t720, t723⟩, A60, H⟩ := H
    replace H : (if t723 = 0 then (some (0, 6)) else (some (t719, 0))) = some (r1, r2) := H
    have A6 := Aside0.mk A60
    clear A60
    by_cases c7 : t723 = 0
    · rw [if_pos c7] at H
      have c7b0 : (t723 == 0) = true := beq_iff_eq.mpr c7
      have c7b1 : (t723 != 0) = false := bne_eq_false_iff_eq.mpr c7
      clear c7
      simp only [Option.some.injEq, Prod.mk.injEq] at H
      obtain ⟨rfl, rfl⟩ := H
      go_enter Try.func74, Try.ntmps74
      go_wp2_with (first | ((with_reducible refine gate_dst (N := 3) rfl ?_); refine box_event ?hg (N := 3) ?hd (cs := #[.int .i64 a0_0, .int .i64 a0_1, .int .i8 a0_2, .int .i8 a0_3]) (t := 71) ?hr ?_; (case hd => rfl); (case hg => rfl); (case hr => first | (go_simp; done) | (go_simp; rfl)); intro gb713 hg w8 hbox hb; have n0_ := Aside0.mk (below_step HB.out hb); have n1_ := Aside0.mk (hbox); have n2_ := Aside0.mk ((by rw [hg]; exact (below_size HB.out) : w.heap.size ≤ gb713)); have n3_ := Aside0.mk ((by rw [hg]; exact (below_size HB.out) : w.heap.size ≤ gb713)); clear HB; have HB := n0_; have BK713 := n1_; have GW713 := n2_; have GE713 := n3_; clear n0_ n1_ n2_ n3_; clear hb hbox hg) | ((with_reducible refine gate_dst (N := 4) rfl ?_); refine box_event ?hg (N := 4) ?hd (cs := #[.int .i64 a1_0, .int .i64 a1_1, .int .i64 a1_2]) (t := 73) ?hr ?_; (case hd => rfl); (case hg => rfl); (case hr => first | (go_simp; done) | (go_simp; rfl)); intro gb714 hg w9 hbox hb; have n0_ := Aside0.mk (blk_below BK713.out hb); have n1_ := Aside0.mk (below_step HB.out hb); have n2_ := Aside0.mk (hbox); have n3_ := Aside0.mk ((by rw [hg]; exact (below_size HB.out) : w.heap.size ≤ gb714)); have n4_ := Aside0.mk ((by rw [hg]; exact (below_size HB.out) : w.heap.size ≤ gb714)); have n5_ := Aside0.mk ((by rw [hg]; exact Nat.ne_of_lt (blk_lt BK713.out) : gb713 ≠ gb714)); have n6_ := Aside0.mk ((by rw [hg]; exact Nat.ne_of_gt (blk_lt BK713.out) : gb714 ≠ gb713)); clear BK713; clear HB; have BK713 := n0_; have HB := n1_; have BK714 := n2_; have GW714 := n3_; have GE714 := n4_; have NB713_714 := n5_; have NB714_713 := n6_; clear n0_ n1_ n2_ n3_ n4_ n5_ n6_; clear hb hbox hg; have hnb10 := NB713_714.out; have hnc10 := NB714_713.out; have hcz11_0 : w9.cell? ⟨gb713, 0, none⟩ = some (.int .i64 a0_0) := (blk_cell BK713.out 0).trans rfl; have hcz11_1 : w9.cell? ⟨gb713, 1, none⟩ = some (.int .i64 a0_1) := (blk_cell BK713.out 1).trans rfl; have hcz11_2 : w9.cell? ⟨gb713, 2, none⟩ = some (.int .i8 a0_2) := (blk_cell BK713.out 2).trans rfl; have hcz11_3 : w9.cell? ⟨gb713, 3, none⟩ = some (.int .i8 a0_3) := (blk_cell BK713.out 3).trans rfl; have hfz11_0 := blk_frozen BK713.out 0; have hfz11_1 := blk_frozen BK713.out 1; have hfz11_2 := blk_frozen BK713.out 2; have hfz11_3 := blk_frozen BK713.out 3; have hcz12_0 : w9.cell? ⟨gb714, 0, none⟩ = some (.int .i64 a1_0) := (blk_cell BK714.out 0).trans rfl; have hcz12_1 : w9.cell? ⟨gb714, 1, none⟩ = some (.int .i64 a1_1) := (blk_cell BK714.out 1).trans rfl; have hcz12_2 : w9.cell? ⟨gb714, 2, none⟩ = some (.int .i64 a1_2) := (blk_cell BK714.out 2).trans rfl; have hfz12_0 := blk_frozen BK714.out 0; have hfz12_1 := blk_frozen BK714.out 1; have hfz12_2 := blk_frozen BK714.out 2) | ((with_reducible refine gate_callee (f := 145) rfl ?_); refine goesL_ (some 16) rfl rfl Try.func145 (by kernel_rfl) rfl #[.agg #[.int .i64 a0_0, .int .i64 a0_1, .int .i8 a0_2, .int .i8 a0_3], .agg #[.int .i64 a1_0, .int .i64 a1_1, .int .i64 a1_2], .slice A2 l2.length c2] rfl (by (try simp only [List.map_toArray, List.map_cons, List.map_nil]); first | done | rfl | (simp only [List.length_drop, List.length_take]; rfl)) ?_; (with_reducible refine (impl_actsCode.calls a0_0 a0_1 a0_2 a0_3 a1_0 a1_1 a1_2 _ _ l2 t715 _ ?side1 ?side2 A4.out).mono ?_); (case side1 => repeat (first | exact (Kd.C_below HR2.out HB.out) | (with_reducible refine Kd.C_alloc ?_ _) | (with_reducible refine Kd.C_drewN ?_ _) | (with_reducible refine Kd.C_drew ?_))); (case side2 => exact HC2.out); rintro e w13 ⟨rfl, hb⟩; refine ⟨_, rfl, ?_⟩; have n0_ := Aside0.mk (blk_below BK713.out hb); have n1_ := Aside0.mk (blk_below BK714.out hb); have n2_ := Aside0.mk (below_step HB.out hb); clear BK713; clear BK714; clear HB; have BK713 := n0_; have BK714 := n1_; have HB := n2_; clear n0_ n1_ n2_; (try clear hb); (try clear hb2); (try clear hk); (try clear hi); have hcz14_0 : w13.cell? ⟨gb713, 0, none⟩ = some (.int .i64 a0_0) := (blk_cell BK713.out 0).trans rfl; have hcz14_1 : w13.cell? ⟨gb713, 1, none⟩ = some (.int .i64 a0_1) := (blk_cell BK713.out 1).trans rfl; have hcz14_2 : w13.cell? ⟨gb713, 2, none⟩ = some (.int .i8 a0_2) := (blk_cell BK713.out 2).trans rfl; have hcz14_3 : w13.cell? ⟨gb713, 3, none⟩ = some (.int .i8 a0_3) := (blk_cell BK713.out 3).trans rfl; have hfz14_0 := blk_frozen BK713.out 0; have hfz14_1 := blk_frozen BK713.out 1; have hfz14_2 := blk_frozen BK713.out 2; have hfz14_3 := blk_frozen BK713.out 3; have hcz15_0 : w13.cell? ⟨gb714, 0, none⟩ = some (.int .i64 a1_0) := (blk_cell BK714.out 0).trans rfl; have hcz15_1 : w13.cell? ⟨gb714, 1, none⟩ = some (.int .i64 a1_1) := (blk_cell BK714.out 1).trans rfl; have hcz15_2 : w13.cell? ⟨gb714, 2, none⟩ = some (.int .i64 a1_2) := (blk_cell BK714.out 2).trans rfl; have hfz15_0 := blk_frozen BK714.out 0; have hfz15_1 := blk_frozen BK714.out 1; have hfz15_2 := blk_frozen BK714.out 2) | ((with_reducible refine gate_callee (f := 146) rfl ?_); refine goesL_ (some 24) rfl rfl Try.func146 (by kernel_rfl) rfl #[.agg #[.int .i64 a0_0, .int .i64 a0_1, .int .i8 a0_2, .int .i8 a0_3], .agg #[.int .i64 a1_0, .int .i64 a1_1, .int .i64 a1_2], .slice A2 l2.length c2] rfl (by (try simp only [List.map_toArray, List.map_cons, List.map_nil]); first | done | rfl | (simp only [List.length_drop, List.length_take]; rfl)) ?_; (with_reducible refine (impl_doAll.calls k a0_0 a0_1 a0_2 a0_3 a1_0 a1_1 a1_2 _ _ l2 t716 t717 t718 t719 t720 t723 _ ?side1 ?side2 A6.out).mono ?_); (case side1 => repeat (first | exact (Kd.C_below HR2.out HB.out) | (with_reducible refine Kd.C_alloc ?_ _) | (with_reducible refine Kd.C_drewN ?_ _) | (with_reducible refine Kd.C_drew ?_))); (case side2 => exact HC2.out); rintro e w16 ⟨v721, rfl, ho0, hb⟩; refine ⟨_, rfl, ?_⟩; have n0_ := Aside0.mk (Kd.R_lower ho0 (below_size HB.out)); have n1_ := Aside0.mk (blk_below BK713.out hb); have n2_ := Aside0.mk (blk_below BK714.out hb); have n3_ := Aside0.mk (below_step HB.out hb); clear BK713; clear BK714; clear HB; have HO722 := n0_; have BK713 := n1_; have BK714 := n2_; have HB := n3_; clear n0_ n1_ n2_ n3_; (try clear hb); (try clear hb2); (try clear hk); (try clear hi); (try clear ho0)) | ((with_reducible refine gate_dst (N := 9) rfl ?_); refine box_event ?hg (N := 9) ?hd (cs := #[.int .i64 0, .int .i64 0, .int .i64 0]) (t := 73) ?hr ?_; (case hd => rfl); (case hg => rfl); (case hr => first | (go_simp; done) | (go_simp; rfl)); intro gb724 hg w17 hbox hb; have n0_ := Aside0.mk (Kd.R_below HO722.out hb); have n1_ := Aside0.mk (blk_below BK713.out hb); have n2_ := Aside0.mk (blk_below BK714.out hb); have n3_ := Aside0.mk (below_step HB.out hb); have n4_ := Aside0.mk (hbox); have n5_ := Aside0.mk ((by rw [hg]; exact (below_size HB.out) : w.heap.size ≤ gb724)); have n6_ := Aside0.mk ((by rw [hg]; exact (below_size HB.out) : w.heap.size ≤ gb724)); have n7_ := Aside0.mk ((by rw [hg]; exact Nat.ne_of_lt (blk_lt BK713.out) : gb713 ≠ gb724)); have n8_ := Aside0.mk ((by rw [hg]; exact Nat.ne_of_gt (blk_lt BK713.out) : gb724 ≠ gb713)); have n9_ := Aside0.mk ((by rw [hg]; exact Nat.ne_of_lt (blk_lt BK714.out) : gb714 ≠ gb724)); have n10_ := Aside0.mk ((by rw [hg]; exact Nat.ne_of_gt (blk_lt BK714.out) : gb724 ≠ gb714)); clear HO722; clear BK713; clear BK714; clear HB; have HO722 := n0_; have BK713 := n1_; have BK714 := n2_; have HB := n3_; have BK724 := n4_; have GW724 := n5_; have GE724 := n6_; have NB713_724 := n7_; have NB724_713 := n8_; have NB714_724 := n9_; have NB724_714 := n10_; clear n0_ n1_ n2_ n3_ n4_ n5_ n6_ n7_ n8_ n9_ n10_; clear hb hbox hg; have hnb18 := NB724_713.out; have hnc18 := NB713_724.out; have hnb19 := NB724_714.out; have hnc19 := NB714_724.out; have hcz20_0 : w17.cell? ⟨gb724, 0, none⟩ = some (.int .i64 0) := (blk_cell BK724.out 0).trans rfl; have hcz20_1 : w17.cell? ⟨gb724, 1, none⟩ = some (.int .i64 0) := (blk_cell BK724.out 1).trans rfl; have hcz20_2 : w17.cell? ⟨gb724, 2, none⟩ = some (.int .i64 0) := (blk_cell BK724.out 2).trans rfl; have hfz20_0 := blk_frozen BK724.out 0; have hfz20_1 := blk_frozen BK724.out 1; have hfz20_2 := blk_frozen BK724.out 2))
      go_ret2
      exact ⟨by first | rfl | (simp [errW_none, errW_some] <;> rfl) | (simp [*, errW_none, errW_some] <;> rfl), by repeat (first | (with_reducible first | exact HB.out | apply below_alloc | apply pw_below_drewN | apply below_drew1 | refine below_set ?_ GE713.out | refine below_set ?_ GE714.out | refine below_set ?_ GE724.out) | exact HB.out)⟩
    · rw [if_neg c7] at H
      have c7b0 : (t723 == 0) = false := beq_eq_false_iff_ne.mpr c7
      have c7b1 : (t723 != 0) = true := bne_iff_ne.mpr c7
      simp only [Option.some.injEq, Prod.mk.injEq] at H
      obtain ⟨rfl, rfl⟩ := H
      go_enter Try.func74, Try.ntmps74
      go_wp2_with (first | ((with_reducible refine gate_dst (N := 3) rfl ?_); refine box_event ?hg (N := 3) ?hd (cs := #[.int .i64 a0_0, .int .i64 a0_1, .int .i8 a0_2, .int .i8 a0_3]) (t := 71) ?hr ?_; (case hd => rfl); (case hg => rfl); (case hr => first | (go_simp; done) | (go_simp; rfl)); intro gb713 hg w21 hbox hb; have n0_ := Aside0.mk (below_step HB.out hb); have n1_ := Aside0.mk (hbox); have n2_ := Aside0.mk ((by rw [hg]; exact (below_size HB.out) : w.heap.size ≤ gb713)); have n3_ := Aside0.mk ((by rw [hg]; exact (below_size HB.out) : w.heap.size ≤ gb713)); clear HB; have HB := n0_; have BK713 := n1_; have GW713 := n2_; have GE713 := n3_; clear n0_ n1_ n2_ n3_; clear hb hbox hg) | ((with_reducible refine gate_dst (N := 4) rfl ?_); refine box_event ?hg (N := 4) ?hd (cs := #[.int .i64 a1_0, .int .i64 a1_1, .int .i64 a1_2]) (t := 73) ?hr ?_; (case hd => rfl); (case hg => rfl); (case hr => first | (go_simp; done) | (go_simp; rfl)); intro gb714 hg w22 hbox hb; have n0_ := Aside0.mk (blk_below BK713.out hb); have n1_ := Aside0.mk (below_step HB.out hb); have n2_ := Aside0.mk (hbox); have n3_ := Aside0.mk ((by rw [hg]; exact (below_size HB.out) : w.heap.size ≤ gb714)); have n4_ := Aside0.mk ((by rw [hg]; exact (below_size HB.out) : w.heap.size ≤ gb714)); have n5_ := Aside0.mk ((by rw [hg]; exact Nat.ne_of_lt (blk_lt BK713.out) : gb713 ≠ gb714)); have n6_ := Aside0.mk ((by rw [hg]; exact Nat.ne_of_gt (blk_lt BK713.out) : gb714 ≠ gb713)); clear BK713; clear HB; have BK713 := n0_; have HB := n1_; have BK714 := n2_; have GW714 := n3_; have GE714 := n4_; have NB713_714 := n5_; have NB714_713 := n6_; clear n0_ n1_ n2_ n3_ n4_ n5_ n6_; clear hb hbox hg; have hnb23 := NB713_714.out; have hnc23 := NB714_713.out; have hcz24_0 : w22.cell? ⟨gb713, 0, none⟩ = some (.int .i64 a0_0) := (blk_cell BK713.out 0).trans rfl; have hcz24_1 : w22.cell? ⟨gb713, 1, none⟩ = some (.int .i64 a0_1) := (blk_cell BK713.out 1).trans rfl; have hcz24_2 : w22.cell? ⟨gb713, 2, none⟩ = some (.int .i8 a0_2) := (blk_cell BK713.out 2).trans rfl; have hcz24_3 : w22.cell? ⟨gb713, 3, none⟩ = some (.int .i8 a0_3) := (blk_cell BK713.out 3).trans rfl; have hfz24_0 := blk_frozen BK713.out 0; have hfz24_1 := blk_frozen BK713.out 1; have hfz24_2 := blk_frozen BK713.out 2; have hfz24_3 := blk_frozen BK713.out 3; have hcz25_0 : w22.cell? ⟨gb714, 0, none⟩ = some (.int .i64 a1_0) := (blk_cell BK714.out 0).trans rfl; have hcz25_1 : w22.cell? ⟨gb714, 1, none⟩ = some (.int .i64 a1_1) := (blk_cell BK714.out 1).trans rfl; have hcz25_2 : w22.cell? ⟨gb714, 2, none⟩ = some (.int .i64 a1_2) := (blk_cell BK714.out 2).trans rfl; have hfz25_0 := blk_frozen BK714.out 0; have hfz25_1 := blk_frozen BK714.out 1; have hfz25_2 := blk_frozen BK714.out 2) | ((with_reducible refine gate_callee (f := 145) rfl ?_); refine goesL_ (some 16) rfl rfl Try.func145 (by kernel_rfl) rfl #[.agg #[.int .i64 a0_0, .int .i64 a0_1, .int .i8 a0_2, .int .i8 a0_3], .agg #[.int .i64 a1_0, .int .i64 a1_1, .int .i64 a1_2], .slice A2 l2.length c2] rfl (by (try simp only [List.map_toArray, List.map_cons, List.map_nil]); first | done | rfl | (simp only [List.length_drop, List.length_take]; rfl)) ?_; (with_reducible refine (impl_actsCode.calls a0_0 a0_1 a0_2 a0_3 a1_0 a1_1 a1_2 _ _ l2 t715 _ ?side1 ?side2 A4.out).mono ?_); (case side1 => repeat (first | exact (Kd.C_below HR2.out HB.out) | (with_reducible refine Kd.C_alloc ?_ _) | (with_reducible refine Kd.C_drewN ?_ _) | (with_reducible refine Kd.C_drew ?_))); (case side2 => exact HC2.out); rintro e w26 ⟨rfl, hb⟩; refine ⟨_, rfl, ?_⟩; have n0_ := Aside0.mk (blk_below BK713.out hb); have n1_ := Aside0.mk (blk_below BK714.out hb); have n2_ := Aside0.mk (below_step HB.out hb); clear BK713; clear BK714; clear HB; have BK713 := n0_; have BK714 := n1_; have HB := n2_; clear n0_ n1_ n2_; (try clear hb); (try clear hb2); (try clear hk); (try clear hi); have hcz27_0 : w26.cell? ⟨gb713, 0, none⟩ = some (.int .i64 a0_0) := (blk_cell BK713.out 0).trans rfl; have hcz27_1 : w26.cell? ⟨gb713, 1, none⟩ = some (.int .i64 a0_1) := (blk_cell BK713.out 1).trans rfl; have hcz27_2 : w26.cell? ⟨gb713, 2, none⟩ = some (.int .i8 a0_2) := (blk_cell BK713.out 2).trans rfl; have hcz27_3 : w26.cell? ⟨gb713, 3, none⟩ = some (.int .i8 a0_3) := (blk_cell BK713.out 3).trans rfl; have hfz27_0 := blk_frozen BK713.out 0; have hfz27_1 := blk_frozen BK713.out 1; have hfz27_2 := blk_frozen BK713.out 2; have hfz27_3 := blk_frozen BK713.out 3; have hcz28_0 : w26.cell? ⟨gb714, 0, none⟩ = some (.int .i64 a1_0) := (blk_cell BK714.out 0).trans rfl; have hcz28_1 : w26.cell? ⟨gb714, 1, none⟩ = some (.int .i64 a1_1) := (blk_cell BK714.out 1).trans rfl; have hcz28_2 : w26.cell? ⟨gb714, 2, none⟩ = some (.int .i64 a1_2) := (blk_cell BK714.out 2).trans rfl; have hfz28_0 := blk_frozen BK714.out 0; have hfz28_1 := blk_frozen BK714.out 1; have hfz28_2 := blk_frozen BK714.out 2) | ((with_reducible refine gate_callee (f := 146) rfl ?_); refine goesL_ (some 24) rfl rfl Try.func146 (by kernel_rfl) rfl #[.agg #[.int .i64 a0_0, .int .i64 a0_1, .int .i8 a0_2, .int .i8 a0_3], .agg #[.int .i64 a1_0, .int .i64 a1_1, .int .i64 a1_2], .slice A2 l2.length c2] rfl (by (try simp only [List.map_toArray, List.map_cons, List.map_nil]); first | done | rfl | (simp only [List.length_drop, List.length_take]; rfl)) ?_; (with_reducible refine (impl_doAll.calls k a0_0 a0_1 a0_2 a0_3 a1_0 a1_1 a1_2 _ _ l2 t716 t717 t718 t719 t720 t723 _ ?side1 ?side2 A6.out).mono ?_); (case side1 => repeat (first | exact (Kd.C_below HR2.out HB.out) | (with_reducible refine Kd.C_alloc ?_ _) | (with_reducible refine Kd.C_drewN ?_ _) | (with_reducible refine Kd.C_drew ?_))); (case side2 => exact HC2.out); rintro e w29 ⟨v721, rfl, ho0, hb⟩; refine ⟨_, rfl, ?_⟩; have n0_ := Aside0.mk (Kd.R_lower ho0 (below_size HB.out)); have n1_ := Aside0.mk (blk_below BK713.out hb); have n2_ := Aside0.mk (blk_below BK714.out hb); have n3_ := Aside0.mk (below_step HB.out hb); clear BK713; clear BK714; clear HB; have HO722 := n0_; have BK713 := n1_; have BK714 := n2_; have HB := n3_; clear n0_ n1_ n2_ n3_; (try clear hb); (try clear hb2); (try clear hk); (try clear hi); (try clear ho0)) | ((with_reducible refine gate_dst (N := 9) rfl ?_); refine box_event ?hg (N := 9) ?hd (cs := #[.int .i64 0, .int .i64 0, .int .i64 0]) (t := 73) ?hr ?_; (case hd => rfl); (case hg => rfl); (case hr => first | (go_simp; done) | (go_simp; rfl)); intro gb724 hg w30 hbox hb; have n0_ := Aside0.mk (Kd.R_below HO722.out hb); have n1_ := Aside0.mk (blk_below BK713.out hb); have n2_ := Aside0.mk (blk_below BK714.out hb); have n3_ := Aside0.mk (below_step HB.out hb); have n4_ := Aside0.mk (hbox); have n5_ := Aside0.mk ((by rw [hg]; exact (below_size HB.out) : w.heap.size ≤ gb724)); have n6_ := Aside0.mk ((by rw [hg]; exact (below_size HB.out) : w.heap.size ≤ gb724)); have n7_ := Aside0.mk ((by rw [hg]; exact Nat.ne_of_lt (blk_lt BK713.out) : gb713 ≠ gb724)); have n8_ := Aside0.mk ((by rw [hg]; exact Nat.ne_of_gt (blk_lt BK713.out) : gb724 ≠ gb713)); have n9_ := Aside0.mk ((by rw [hg]; exact Nat.ne_of_lt (blk_lt BK714.out) : gb714 ≠ gb724)); have n10_ := Aside0.mk ((by rw [hg]; exact Nat.ne_of_gt (blk_lt BK714.out) : gb724 ≠ gb714)); clear HO722; clear BK713; clear BK714; clear HB; have HO722 := n0_; have BK713 := n1_; have BK714 := n2_; have HB := n3_; have BK724 := n4_; have GW724 := n5_; have GE724 := n6_; have NB713_724 := n7_; have NB724_713 := n8_; have NB714_724 := n9_; have NB724_714 := n10_; clear n0_ n1_ n2_ n3_ n4_ n5_ n6_ n7_ n8_ n9_ n10_; clear hb hbox hg; have hnb31 := NB724_713.out; have hnc31 := NB713_724.out; have hnb32 := NB724_714.out; have hnc32 := NB714_724.out; have hcz33_0 : w30.cell? ⟨gb724, 0, none⟩ = some (.int .i64 0) := (blk_cell BK724.out 0).trans rfl; have hcz33_1 : w30.cell? ⟨gb724, 1, none⟩ = some (.int .i64 0) := (blk_cell BK724.out 1).trans rfl; have hcz33_2 : w30.cell? ⟨gb724, 2, none⟩ = some (.int .i64 0) := (blk_cell BK724.out 2).trans rfl; have hfz33_0 := blk_frozen BK724.out 0; have hfz33_1 := blk_frozen BK724.out 1; have hfz33_2 := blk_frozen BK724.out 2))
      go_ret2
      exact ⟨by first | rfl | (simp [errW_none, errW_some] <;> rfl) | (simp [*, errW_none, errW_some] <;> rfl), by repeat (first | (with_reducible first | exact HB.out | apply below_alloc | apply pw_below_drewN | apply below_drew1 | refine below_set ?_ GE713.out | refine below_set ?_ GE714.out | refine below_set ?_ GE724.out) | exact HB.out)⟩
  · rw [if_neg c5] at H
    have c5b0 : (t715 == 0) = false := beq_eq_false_iff_ne.mpr c5
    have c5b1 : (t715 != 0) = true := bne_iff_ne.mpr c5
    simp only [Option.some.injEq, Prod.mk.injEq] at H
    obtain ⟨rfl, rfl⟩ := H
    go_enter Try.func74, Try.ntmps74
    go_wp2_with (first | ((with_reducible refine gate_dst (N := 3) rfl ?_); refine box_event ?hg (N := 3) ?hd (cs := #[.int .i64 a0_0, .int .i64 a0_1, .int .i8 a0_2, .int .i8 a0_3]) (t := 71) ?hr ?_; (case hd => rfl); (case hg => rfl); (case hr => first | (go_simp; done) | (go_simp; rfl)); intro gb713 hg w34 hbox hb; have n0_ := Aside0.mk (below_step HB.out hb); have n1_ := Aside0.mk (hbox); have n2_ := Aside0.mk ((by rw [hg]; exact (below_size HB.out) : w.heap.size ≤ gb713)); have n3_ := Aside0.mk ((by rw [hg]; exact (below_size HB.out) : w.heap.size ≤ gb713)); clear HB; have HB := n0_; have BK713 := n1_; have GW713 := n2_; have GE713 := n3_; clear n0_ n1_ n2_ n3_; clear hb hbox hg) | ((with_reducible refine gate_dst (N := 4) rfl ?_); refine box_event ?hg (N := 4) ?hd (cs := #[.int .i64 a1_0, .int .i64 a1_1, .int .i64 a1_2]) (t := 73) ?hr ?_; (case hd => rfl); (case hg => rfl); (case hr => first | (go_simp; done) | (go_simp; rfl)); intro gb714 hg w35 hbox hb; have n0_ := Aside0.mk (blk_below BK713.out hb); have n1_ := Aside0.mk (below_step HB.out hb); have n2_ := Aside0.mk (hbox); have n3_ := Aside0.mk ((by rw [hg]; exact (below_size HB.out) : w.heap.size ≤ gb714)); have n4_ := Aside0.mk ((by rw [hg]; exact (below_size HB.out) : w.heap.size ≤ gb714)); have n5_ := Aside0.mk ((by rw [hg]; exact Nat.ne_of_lt (blk_lt BK713.out) : gb713 ≠ gb714)); have n6_ := Aside0.mk ((by rw [hg]; exact Nat.ne_of_gt (blk_lt BK713.out) : gb714 ≠ gb713)); clear BK713; clear HB; have BK713 := n0_; have HB := n1_; have BK714 := n2_; have GW714 := n3_; have GE714 := n4_; have NB713_714 := n5_; have NB714_713 := n6_; clear n0_ n1_ n2_ n3_ n4_ n5_ n6_; clear hb hbox hg; have hnb36 := NB713_714.out; have hnc36 := NB714_713.out; have hcz37_0 : w35.cell? ⟨gb713, 0, none⟩ = some (.int .i64 a0_0) := (blk_cell BK713.out 0).trans rfl; have hcz37_1 : w35.cell? ⟨gb713, 1, none⟩ = some (.int .i64 a0_1) := (blk_cell BK713.out 1).trans rfl; have hcz37_2 : w35.cell? ⟨gb713, 2, none⟩ = some (.int .i8 a0_2) := (blk_cell BK713.out 2).trans rfl; have hcz37_3 : w35.cell? ⟨gb713, 3, none⟩ = some (.int .i8 a0_3) := (blk_cell BK713.out 3).trans rfl; have hfz37_0 := blk_frozen BK713.out 0; have hfz37_1 := blk_frozen BK713.out 1; have hfz37_2 := blk_frozen BK713.out 2; have hfz37_3 := blk_frozen BK713.out 3; have hcz38_0 : w35.cell? ⟨gb714, 0, none⟩ = some (.int .i64 a1_0) := (blk_cell BK714.out 0).trans rfl; have hcz38_1 : w35.cell? ⟨gb714, 1, none⟩ = some (.int .i64 a1_1) := (blk_cell BK714.out 1).trans rfl; have hcz38_2 : w35.cell? ⟨gb714, 2, none⟩ = some (.int .i64 a1_2) := (blk_cell BK714.out 2).trans rfl; have hfz38_0 := blk_frozen BK714.out 0; have hfz38_1 := blk_frozen BK714.out 1; have hfz38_2 := blk_frozen BK714.out 2) | ((with_reducible refine gate_callee (f := 145) rfl ?_); refine goesL_ (some 16) rfl rfl Try.func145 (by kernel_rfl) rfl #[.agg #[.int .i64 a0_0, .int .i64 a0_1, .int .i8 a0_2, .int .i8 a0_3], .agg #[.int .i64 a1_0, .int .i64 a1_1, .int .i64 a1_2], .slice A2 l2.length c2] rfl (by (try simp only [List.map_toArray, List.map_cons, List.map_nil]); first | done | rfl | (simp only [List.length_drop, List.length_take]; rfl)) ?_; (with_reducible refine (impl_actsCode.calls a0_0 a0_1 a0_2 a0_3 a1_0 a1_1 a1_2 _ _ l2 t715 _ ?side1 ?side2 A4.out).mono ?_); (case side1 => repeat (first | exact (Kd.C_below HR2.out HB.out) | (with_reducible refine Kd.C_alloc ?_ _) | (with_reducible refine Kd.C_drewN ?_ _) | (with_reducible refine Kd.C_drew ?_))); (case side2 => exact HC2.out); rintro e w39 ⟨rfl, hb⟩; refine ⟨_, rfl, ?_⟩; have n0_ := Aside0.mk (blk_below BK713.out hb); have n1_ := Aside0.mk (blk_below BK714.out hb); have n2_ := Aside0.mk (below_step HB.out hb); clear BK713; clear BK714; clear HB; have BK713 := n0_; have BK714 := n1_; have HB := n2_; clear n0_ n1_ n2_; (try clear hb); (try clear hb2); (try clear hk); (try clear hi)))
    go_ret2
    exact ⟨by first | rfl | (simp [errW_none, errW_some] <;> rfl) | (simp [*, errW_none, errW_some] <;> rfl), by repeat (first | (with_reducible first | exact HB.out | apply below_alloc | apply pw_below_drewN | apply below_drew1 | refine below_set ?_ GE713.out | refine below_set ?_ GE714.out) | exact HB.out)⟩

/-! ### laws_FnExactFirstFailure: function 9 -/
def laws_FnExactFirstFailure.j0 : Nat → List (S163) → List (S161) → Bool → Option (Bool)
  | 0, _, _, _ => none
  | k + 1, x2, x10, x46 => if x46 = true then (some false) else ((laws_toActS.f k x2).bind fun t757 => ((laws_eqActS.f k x10 t757).bind fun t760 => (if t760 = true then (some true) else (some false))))
def laws_FnExactFirstFailure.f (k : Nat) (a0_0 : Int) (a0_1 : Int) (a0_2 : Int) (a0_3 : Int) (a1_0 : Int) (a1_1 : Int) (a1_2 : Int) (l2 : List (S163)) : Option (Bool) := (laws_szActS.f l2 1048576).bind fun t732 => (if t732 < 0 then (some true) else ((laws_toDeveloper.f a0_0 a0_1 a0_2 a0_3).bind fun bt733 => ((laws_toBath.f a1_0 a1_1 a1_2).bind fun bt737 => ((laws_toActS.f k l2).bind fun t740 => ((spec_FirstFailure.f k bt733.1 bt733.2.1 bt733.2.2.1 bt733.2.2.2 bt737.1 bt737.2.1 bt737.2.2 t740).bind fun bt743 => ((laws_toActS.f k l2).bind fun t745 => ((laws_toDeveloper.f a0_0 a0_1 a0_2 a0_3).bind fun bt748 => ((laws_toBath.f a1_0 a1_1 a1_2).bind fun bt752 => ((impl_FirstFailure.f k bt748.1 bt748.2.1 bt748.2.2.1 bt748.2.2.2 bt752.1 bt752.2.1 bt752.2.2 t745).bind fun bt755 => (if bt755.1 = bt743.1 then (laws_FnExactFirstFailure.j0 k l2 t745 (bt755.2 != bt743.2)) else (laws_FnExactFirstFailure.j0 k l2 t745 true)))))))))))
theorem laws_FnExactFirstFailure.mono_l : ∀ k, (∀ y0 y1 y2, LeO (laws_FnExactFirstFailure.j0 k y0 y1 y2) (laws_FnExactFirstFailure.j0 (k + 1) y0 y1 y2))
  | 0 => fun _ _ _ r h => by simp [laws_FnExactFirstFailure.j0] at h
  | k + 1 => by
    have ih0 := laws_FnExactFirstFailure.mono_l k
    · intro y0 y1 y2
      unfold laws_FnExactFirstFailure.j0
      repeat' first
      | (with_reducible exact ih0 _ _ _)
      | (with_reducible exact impl_FirstFailure.mono _ _ _ _ _ _ _ _ _)
      | (with_reducible exact laws_eqActS.mono _ _ _)
      | (with_reducible exact laws_toActS.mono _ _)
      | (with_reducible exact spec_FirstFailure.mono _ _ _ _ _ _ _ _ _)
      | (with_reducible exact LeO.refl _)
      | (with_reducible exact LeO.none _)
      | (with_reducible refine LeO.ite ?_ ?_)
      | (with_reducible refine LeO.bind ?_ (fun _ => ?_))
      | exact ih0 _ _ _
      | exact impl_FirstFailure.mono _ _ _ _ _ _ _ _ _
      | exact laws_eqActS.mono _ _ _
      | exact laws_toActS.mono _ _
      | exact spec_FirstFailure.mono _ _ _ _ _ _ _ _ _
      | exact LeO.none _
      | refine LeO.ite ?_ ?_
      | refine LeO.bind ?_ (fun _ => ?_)
theorem laws_FnExactFirstFailure.mono : ∀ a0 a1 a2 a3 a4 a5 a6 a7 k, LeO (laws_FnExactFirstFailure.f k a0 a1 a2 a3 a4 a5 a6 a7) (laws_FnExactFirstFailure.f (k + 1) a0 a1 a2 a3 a4 a5 a6 a7) := by
  intro a0 a1 a2 a3 a4 a5 a6 a7 k
  have ih0 := laws_FnExactFirstFailure.mono_l k
  unfold laws_FnExactFirstFailure.f
  repeat' first
      | (with_reducible exact ih0 _ _ _)
      | (with_reducible exact impl_FirstFailure.mono _ _ _ _ _ _ _ _ _)
      | (with_reducible exact laws_eqActS.mono _ _ _)
      | (with_reducible exact laws_toActS.mono _ _)
      | (with_reducible exact spec_FirstFailure.mono _ _ _ _ _ _ _ _ _)
      | (with_reducible exact LeO.refl _)
      | (with_reducible exact LeO.none _)
      | (with_reducible refine LeO.ite ?_ ?_)
      | (with_reducible refine LeO.bind ?_ (fun _ => ?_))
      | exact ih0 _ _ _
      | exact impl_FirstFailure.mono _ _ _ _ _ _ _ _ _
      | exact laws_eqActS.mono _ _ _
      | exact laws_toActS.mono _ _
      | exact spec_FirstFailure.mono _ _ _ _ _ _ _ _ _
      | exact LeO.none _
      | refine LeO.ite ?_ ?_
      | refine LeO.bind ?_ (fun _ => ?_)
def laws_FnExactFirstFailure.T5 : Bool × List (List Nat × List Nat) := (true, [([], []), ([0], [0]), ([], []), ([2, 1], [2]), ([], []), ([4, 3], [4]), ([1, 3, 5, 5], [1, 3, 5]), ([6], [6]), ([7], [7]), ([7], [7]), ([8, 6, 0, 1, 2, 3, 4, 5, 6, 7, 8], [8]), ([9, 10, 0, 1, 2, 3, 4, 5, 6, 7, 8, 9, 10], [9])])
def laws_FnExactFirstFailure.B5 : List Nat := [0, 1, 0, 7, 0, 31, 63, 127, 255, 255, 511, 2047]
theorem laws_FnExactFirstFailure.tab5 : rtab .any (opsOf Try.f9 5) = laws_FnExactFirstFailure.T5 := by kernel_rfl
theorem laws_FnExactFirstFailure.bits5 : waitsOk laws_FnExactFirstFailure.T5.2 laws_FnExactFirstFailure.B5 = true := by kernel_rfl
def laws_FnExactFirstFailure.T7 : Bool × List (List Nat × List Nat) := (true, [([], []), ([0], [0]), ([], []), ([2, 1], [2]), ([], []), ([1, 3, 4, 3], [1, 3, 4]), ([5], [5]), ([6], [6]), ([6], [6]), ([7, 5, 0, 1, 2, 3, 4, 5, 6, 7], [7]), ([8, 9, 0, 1, 2, 3, 4, 5, 6, 7, 8, 9], [8])])
def laws_FnExactFirstFailure.B7 : List Nat := [0, 1, 0, 7, 0, 31, 63, 127, 127, 255, 1023]
theorem laws_FnExactFirstFailure.tab7 : rtab .any (opsOf Try.f9 7) = laws_FnExactFirstFailure.T7 := by kernel_rfl
theorem laws_FnExactFirstFailure.bits7 : waitsOk laws_FnExactFirstFailure.T7.2 laws_FnExactFirstFailure.B7 = true := by kernel_rfl
set_option maxHeartbeats 8000000 in
set_option maxRecDepth 100000 in
theorem laws_FnExactFirstFailure.calls (k : Nat) (a0_0 : Int) (a0_1 : Int) (a0_2 : Int) (a0_3 : Int) (a1_0 : Int) (a1_1 : Int) (a1_2 : Int) (A2 : Option Addr) (c2 : Nat) (l2 : List (S163)) (r : Bool) (w : World) (hr2 : Kd.C k163 w A2 l2.length l2) (hc2 : l2.length ≤ c2) (h : laws_FnExactFirstFailure.f k a0_0 a0_1 a0_2 a0_3 a1_0 a1_1 a1_2 l2 = some r) (hT_ : Aside0 (r = true)) :
    Calls Try.prog 9 #[.agg #[.int .i64 a0_0, .int .i64 a0_1, .int .i8 a0_2, .int .i8 a0_3], .agg #[.int .i64 a1_0, .int .i64 a1_1, .int .i64 a1_2], .slice A2 l2.length c2] w fun e w' => e = .returned (.bool r) ∧ Below w.heap.size w w' := by
  have hu92 := Try.underlying92
  have hu93 := Try.underlying93
  have HR2 := Aside0.mk hr2
  have HC2 := Aside0.mk hc2
  clear hr2 hc2
  have HB := Aside0.mk (Below.refl w.heap.size w)
  have H : ((laws_szActS.f l2 1048576).bind fun t732 => (if t732 < 0 then (some true) else ((laws_toDeveloper.f a0_0 a0_1 a0_2 a0_3).bind fun bt733 => ((laws_toBath.f a1_0 a1_1 a1_2).bind fun bt737 => ((laws_toActS.f k l2).bind fun t740 => ((spec_FirstFailure.f k bt733.1 bt733.2.1 bt733.2.2.1 bt733.2.2.2 bt737.1 bt737.2.1 bt737.2.2 t740).bind fun bt743 => ((laws_toActS.f k l2).bind fun t745 => ((laws_toDeveloper.f a0_0 a0_1 a0_2 a0_3).bind fun bt748 => ((laws_toBath.f a1_0 a1_1 a1_2).bind fun bt752 => ((impl_FirstFailure.f k bt748.1 bt748.2.1 bt748.2.2.1 bt748.2.2.2 bt752.1 bt752.2.1 bt752.2.2 t745).bind fun bt755 => (if bt755.1 = bt743.1 then (laws_FnExactFirstFailure.j0 k l2 t745 (bt755.2 != bt743.2)) else (laws_FnExactFirstFailure.j0 k l2 t745 true)))))))))))) = some r := h
  clear h
  replace H := Option.bind_eq_some_iff.mp H
  obtain ⟨t732, A40, H⟩ := H
  replace H : (if t732 < 0 then (some true) else ((laws_toDeveloper.f a0_0 a0_1 a0_2 a0_3).bind fun bt733 => ((laws_toBath.f a1_0 a1_1 a1_2).bind fun bt737 => ((laws_toActS.f k l2).bind fun t740 => ((spec_FirstFailure.f k bt733.1 bt733.2.1 bt733.2.2.1 bt733.2.2.2 bt737.1 bt737.2.1 bt737.2.2 t740).bind fun bt743 => ((laws_toActS.f k l2).bind fun t745 => ((laws_toDeveloper.f a0_0 a0_1 a0_2 a0_3).bind fun bt748 => ((laws_toBath.f a1_0 a1_1 a1_2).bind fun bt752 => ((impl_FirstFailure.f k bt748.1 bt748.2.1 bt748.2.2.1 bt748.2.2.2 bt752.1 bt752.2.1 bt752.2.2 t745).bind fun bt755 => (if bt755.1 = bt743.1 then (laws_FnExactFirstFailure.j0 k l2 t745 (bt755.2 != bt743.2)) else (laws_FnExactFirstFailure.j0 k l2 t745 true))))))))))) = some r := H
  have A4 := Aside0.mk A40
  clear A40
  by_cases c5 : t732 < 0
  · rw [if_pos c5] at H
    have c5b0 : decide (t732 < 0) = true := decide_eq_true c5
    clear c5
    obtain rfl := Option.some.inj H
    go_enter Try.func9, Try.ntmps9
    go_wp2_with (first | ((with_reducible refine gate_dst (N := 3) rfl ?_); refine box_event ?hg (N := 3) ?hd (cs := #[.int .i64 a0_0, .int .i64 a0_1, .int .i8 a0_2, .int .i8 a0_3]) (t := 92) ?hr ?_; (case hd => rfl); (case hg => rfl); (case hr => first | (go_simp; done) | (go_simp; rfl)); intro gb730 hg w6 hbox hb; have n0_ := Aside0.mk (below_step HB.out hb); have n1_ := Aside0.mk (hbox); have n2_ := Aside0.mk ((by rw [hg]; exact (below_size HB.out) : w.heap.size ≤ gb730)); have n3_ := Aside0.mk ((by rw [hg]; exact (below_size HB.out) : w.heap.size ≤ gb730)); clear HB; have HB := n0_; have BK730 := n1_; have GW730 := n2_; have GE730 := n3_; clear n0_ n1_ n2_ n3_; clear hb hbox hg) | ((with_reducible refine gate_dst (N := 4) rfl ?_); refine box_event ?hg (N := 4) ?hd (cs := #[.int .i64 a1_0, .int .i64 a1_1, .int .i64 a1_2]) (t := 93) ?hr ?_; (case hd => rfl); (case hg => rfl); (case hr => first | (go_simp; done) | (go_simp; rfl)); intro gb731 hg w7 hbox hb; have n0_ := Aside0.mk (blk_below BK730.out hb); have n1_ := Aside0.mk (below_step HB.out hb); have n2_ := Aside0.mk (hbox); have n3_ := Aside0.mk ((by rw [hg]; exact (below_size HB.out) : w.heap.size ≤ gb731)); have n4_ := Aside0.mk ((by rw [hg]; exact (below_size HB.out) : w.heap.size ≤ gb731)); have n5_ := Aside0.mk ((by rw [hg]; exact Nat.ne_of_lt (blk_lt BK730.out) : gb730 ≠ gb731)); have n6_ := Aside0.mk ((by rw [hg]; exact Nat.ne_of_gt (blk_lt BK730.out) : gb731 ≠ gb730)); clear BK730; clear HB; have BK730 := n0_; have HB := n1_; have BK731 := n2_; have GW731 := n3_; have GE731 := n4_; have NB730_731 := n5_; have NB731_730 := n6_; clear n0_ n1_ n2_ n3_ n4_ n5_ n6_; clear hb hbox hg) | ((with_reducible refine gate_callee (f := 69) rfl ?_); refine goesL_ (some 15) rfl rfl Try.func69 (by kernel_rfl) rfl #[.slice A2 l2.length c2, .int .i64 1048576] rfl (by (try simp only [List.map_toArray, List.map_cons, List.map_nil]); first | done | rfl | (simp only [List.length_drop, List.length_take]; rfl)) ?_; (with_reducible refine (laws_szActS.calls _ _ l2 1048576 t732 _ ?side1 ?side2 A4.out).mono ?_); (case side1 => repeat (first | exact (Kd.C_below HR2.out HB.out) | (with_reducible refine Kd.C_alloc ?_ _) | (with_reducible refine Kd.C_drewN ?_ _) | (with_reducible refine Kd.C_drew ?_))); (case side2 => exact HC2.out); rintro e w' ⟨rfl, ⟨nd, rfl⟩⟩; refine ⟨_, rfl, ?_⟩))
    go_ret
    exact ⟨by first | rfl | (simp [errW_none, errW_some] <;> rfl) | (simp [*, errW_none, errW_some] <;> rfl), by repeat (first | (with_reducible first | exact HB.out | apply below_alloc | apply pw_below_drewN | apply below_drew1 | refine below_set ?_ GE730.out | refine below_set ?_ GE731.out) | exact HB.out)⟩
  · rw [if_neg c5] at H
    have c5b0 : decide (t732 < 0) = false := decide_eq_false c5
    clear c5
    replace H := Option.bind_eq_some_iff.mp H
    obtain ⟨⟨t733, t734, t735, t736⟩, A80, H⟩ := H
    replace H : ((laws_toBath.f a1_0 a1_1 a1_2).bind fun bt737 => ((laws_toActS.f k l2).bind fun t740 => ((spec_FirstFailure.f k t733 t734 t735 t736 bt737.1 bt737.2.1 bt737.2.2 t740).bind fun bt743 => ((laws_toActS.f k l2).bind fun t745 => ((laws_toDeveloper.f a0_0 a0_1 a0_2 a0_3).bind fun bt748 => ((laws_toBath.f a1_0 a1_1 a1_2).bind fun bt752 => ((impl_FirstFailure.f k bt748.1 bt748.2.1 bt748.2.2.1 bt748.2.2.2 bt752.1 bt752.2.1 bt752.2.2 t745).bind fun bt755 => (if bt755.1 = bt743.1 then (laws_FnExactFirstFailure.j0 k l2 t745 (bt755.2 != bt743.2)) else (laws_FnExactFirstFailure.j0 k l2 t745 true))))))))) = some r := H
    have A8 := Aside0.mk A80
    clear A80
    replace H := Option.bind_eq_some_iff.mp H
    obtain ⟨⟨t737, t738, t739⟩, A90, H⟩ := H
    replace H : ((laws_toActS.f k l2).bind fun t740 => ((spec_FirstFailure.f k t733 t734 t735 t736 t737 t738 t739 t740).bind fun bt743 => ((laws_toActS.f k l2).bind fun t745 => ((laws_toDeveloper.f a0_0 a0_1 a0_2 a0_3).bind fun bt748 => ((laws_toBath.f a1_0 a1_1 a1_2).bind fun bt752 => ((impl_FirstFailure.f k bt748.1 bt748.2.1 bt748.2.2.1 bt748.2.2.2 bt752.1 bt752.2.1 bt752.2.2 t745).bind fun bt755 => (if bt755.1 = bt743.1 then (laws_FnExactFirstFailure.j0 k l2 t745 (bt755.2 != bt743.2)) else (laws_FnExactFirstFailure.j0 k l2 t745 true)))))))) = some r := H
    have A9 := Aside0.mk A90
    clear A90
    replace H := Option.bind_eq_some_iff.mp H
    obtain ⟨t740, A100, H⟩ := H
    replace H : ((spec_FirstFailure.f k t733 t734 t735 t736 t737 t738 t739 t740).bind fun bt743 => ((laws_toActS.f k l2).bind fun t745 => ((laws_toDeveloper.f a0_0 a0_1 a0_2 a0_3).bind fun bt748 => ((laws_toBath.f a1_0 a1_1 a1_2).bind fun bt752 => ((impl_FirstFailure.f k bt748.1 bt748.2.1 bt748.2.2.1 bt748.2.2.2 bt752.1 bt752.2.1 bt752.2.2 t745).bind fun bt755 => (if bt755.1 = bt743.1 then (laws_FnExactFirstFailure.j0 k l2 t745 (bt755.2 != bt743.2)) else (laws_FnExactFirstFailure.j0 k l2 t745 true))))))) = some r := H
    have A10 := Aside0.mk A100
    clear A100
    replace H := Option.bind_eq_some_iff.mp H
    obtain ⟨⟨t743, t744⟩, A110, H⟩ := H
    replace H : ((laws_toActS.f k l2).bind fun t745 => ((laws_toDeveloper.f a0_0 a0_1 a0_2 a0_3).bind fun bt748 => ((laws_toBath.f a1_0 a1_1 a1_2).bind fun bt752 => ((impl_FirstFailure.f k bt748.1 bt748.2.1 bt748.2.2.1 bt748.2.2.2 bt752.1 bt752.2.1 bt752.2.2 t745).bind fun bt755 => (if bt755.1 = t743 then (laws_FnExactFirstFailure.j0 k l2 t745 (bt755.2 != t744)) else (laws_FnExactFirstFailure.j0 k l2 t745 true)))))) = some r := H
    have A11 := Aside0.mk A110
    clear A110
    replace H := Option.bind_eq_some_iff.mp H
    obtain ⟨t745, A120, H⟩ := H
    replace H : ((laws_toDeveloper.f a0_0 a0_1 a0_2 a0_3).bind fun bt748 => ((laws_toBath.f a1_0 a1_1 a1_2).bind fun bt752 => ((impl_FirstFailure.f k bt748.1 bt748.2.1 bt748.2.2.1 bt748.2.2.2 bt752.1 bt752.2.1 bt752.2.2 t745).bind fun bt755 => (if bt755.1 = t743 then (laws_FnExactFirstFailure.j0 k l2 t745 (bt755.2 != t744)) else (laws_FnExactFirstFailure.j0 k l2 t745 true))))) = some r := H
    have A12 := Aside0.mk A120
    clear A120
    replace H := Option.bind_eq_some_iff.mp H
    obtain ⟨⟨t748, t749, t750, t751⟩, A130, H⟩ := H
    replace H : ((laws_toBath.f a1_0 a1_1 a1_2).bind fun bt752 => ((impl_FirstFailure.f k t748 t749 t750 t751 bt752.1 bt752.2.1 bt752.2.2 t745).bind fun bt755 => (if bt755.1 = t743 then (laws_FnExactFirstFailure.j0 k l2 t745 (bt755.2 != t744)) else (laws_FnExactFirstFailure.j0 k l2 t745 true)))) = some r := H
    have A13 := Aside0.mk A130
    clear A130
    replace H := Option.bind_eq_some_iff.mp H
    obtain ⟨⟨t752, t753, t754⟩, A140, H⟩ := H
    replace H : ((impl_FirstFailure.f k t748 t749 t750 t751 t752 t753 t754 t745).bind fun bt755 => (if bt755.1 = t743 then (laws_FnExactFirstFailure.j0 k l2 t745 (bt755.2 != t744)) else (laws_FnExactFirstFailure.j0 k l2 t745 true))) = some r := H
    have A14 := Aside0.mk A140
    clear A140
    replace H := Option.bind_eq_some_iff.mp H
    obtain ⟨⟨t755, t756⟩, A150, H⟩ := H
    replace H : (if t755 = t743 then (laws_FnExactFirstFailure.j0 k l2 t745 (t756 != t744)) else (laws_FnExactFirstFailure.j0 k l2 t745 true)) = some r := H
    have A15 := Aside0.mk A150
    clear A150
    have HC16 := Aside0.mk H
    clear H
    go_enter Try.func9, Try.ntmps9
    try go_wp2_with (first | ((with_reducible refine gate_dst (N := 3) rfl ?_); refine box_event ?hg (N := 3) ?hd (cs := #[.int .i64 a0_0, .int .i64 a0_1, .int .i8 a0_2, .int .i8 a0_3]) (t := 92) ?hr ?_; (case hd => rfl); (case hg => rfl); (case hr => first | (go_simp; done) | (go_simp; rfl)); intro gb730 hg w17 hbox hb; have n0_ := Aside0.mk (below_step HB.out hb); have n1_ := Aside0.mk (hbox); have n2_ := Aside0.mk ((by rw [hg]; exact (below_size HB.out) : w.heap.size ≤ gb730)); have n3_ := Aside0.mk ((by rw [hg]; exact (below_size HB.out) : w.heap.size ≤ gb730)); clear HB; have HB := n0_; have BK730 := n1_; have GW730 := n2_; have GE730 := n3_; clear n0_ n1_ n2_ n3_; clear hb hbox hg) | ((with_reducible refine gate_dst (N := 4) rfl ?_); refine box_event ?hg (N := 4) ?hd (cs := #[.int .i64 a1_0, .int .i64 a1_1, .int .i64 a1_2]) (t := 93) ?hr ?_; (case hd => rfl); (case hg => rfl); (case hr => first | (go_simp; done) | (go_simp; rfl)); intro gb731 hg w18 hbox hb; have n0_ := Aside0.mk (blk_below BK730.out hb); have n1_ := Aside0.mk (below_step HB.out hb); have n2_ := Aside0.mk (hbox); have n3_ := Aside0.mk ((by rw [hg]; exact (below_size HB.out) : w.heap.size ≤ gb731)); have n4_ := Aside0.mk ((by rw [hg]; exact (below_size HB.out) : w.heap.size ≤ gb731)); have n5_ := Aside0.mk ((by rw [hg]; exact Nat.ne_of_lt (blk_lt BK730.out) : gb730 ≠ gb731)); have n6_ := Aside0.mk ((by rw [hg]; exact Nat.ne_of_gt (blk_lt BK730.out) : gb731 ≠ gb730)); clear BK730; clear HB; have BK730 := n0_; have HB := n1_; have BK731 := n2_; have GW731 := n3_; have GE731 := n4_; have NB730_731 := n5_; have NB731_730 := n6_; clear n0_ n1_ n2_ n3_ n4_ n5_ n6_; clear hb hbox hg) | ((with_reducible refine gate_callee (f := 69) rfl ?_); refine goesL_ (some 15) rfl rfl Try.func69 (by kernel_rfl) rfl #[.slice A2 l2.length c2, .int .i64 1048576] rfl (by (try simp only [List.map_toArray, List.map_cons, List.map_nil]); first | done | rfl | (simp only [List.length_drop, List.length_take]; rfl)) ?_; (with_reducible refine (laws_szActS.calls _ _ l2 1048576 t732 _ ?side1 ?side2 A4.out).mono ?_); (case side1 => repeat (first | exact (Kd.C_below HR2.out HB.out) | (with_reducible refine Kd.C_alloc ?_ _) | (with_reducible refine Kd.C_drewN ?_ _) | (with_reducible refine Kd.C_drew ?_))); (case side2 => exact HC2.out); rintro e w' ⟨rfl, ⟨nd, rfl⟩⟩; refine ⟨_, rfl, ?_⟩))
    (try (rw [drewN_self w18]; generalize hq_ : World.drewN w18 _ = w18; have n0_ : Aside0 (w18.heap[gb730]? = some (.cells #[.int .i64 a0_0, .int .i64 a0_1, .int .i8 a0_2, .int .i8 a0_3] 92 (0, 0))) := ⟨by rw [← hq_]; exact (by (with_reducible repeat (first | refine blk_drewN ?_ _ | refine blk_drew ?_ | refine blk_alloc ?_ _)); exact BK730.out)⟩; have n1_ : Aside0 (w18.heap[gb731]? = some (.cells #[.int .i64 a1_0, .int .i64 a1_1, .int .i64 a1_2] 93 (0, 0))) := ⟨by rw [← hq_]; exact (by (with_reducible repeat (first | refine blk_drewN ?_ _ | refine blk_drew ?_ | refine blk_alloc ?_ _)); exact BK731.out)⟩; have n2_ : Aside0 (Below w.heap.size w w18) := ⟨by rw [← hq_]; exact (by repeat (first | (with_reducible first | exact HB.out | apply below_alloc | apply pw_below_drewN | apply below_drew1 | refine below_set ?_ GE730.out | refine below_set ?_ GE731.out) | exact HB.out))⟩; clear BK730 BK731 HB hq_; have BK730 := n0_; have BK731 := n1_; have HB := n2_; clear n0_ n1_ n2_; have hcR730_0 : w18.cell? ⟨gb730, 0, none⟩ = some (.int .i64 a0_0) := (blk_cell BK730.out 0).trans rfl; have hfR730_0 := blk_frozen BK730.out 0; have hcR730_1 : w18.cell? ⟨gb730, 1, none⟩ = some (.int .i64 a0_1) := (blk_cell BK730.out 1).trans rfl; have hfR730_1 := blk_frozen BK730.out 1; have hcR730_2 : w18.cell? ⟨gb730, 2, none⟩ = some (.int .i8 a0_2) := (blk_cell BK730.out 2).trans rfl; have hfR730_2 := blk_frozen BK730.out 2; have hcR730_3 : w18.cell? ⟨gb730, 3, none⟩ = some (.int .i8 a0_3) := (blk_cell BK730.out 3).trans rfl; have hfR730_3 := blk_frozen BK730.out 3; have hcR731_0 : w18.cell? ⟨gb731, 0, none⟩ = some (.int .i64 a1_0) := (blk_cell BK731.out 0).trans rfl; have hfR731_0 := blk_frozen BK731.out 0; have hcR731_1 : w18.cell? ⟨gb731, 1, none⟩ = some (.int .i64 a1_1) := (blk_cell BK731.out 1).trans rfl; have hfR731_1 := blk_frozen BK731.out 1; have hcR731_2 : w18.cell? ⟨gb731, 2, none⟩ = some (.int .i64 a1_2) := (blk_cell BK731.out 2).trans rfl; have hfR731_2 := blk_frozen BK731.out 2))
    have n0_ := Aside0.mk (blk_drew BK730.out)
    have n1_ := Aside0.mk (blk_drew BK731.out)
    have n2_ := Aside0.mk (below_drew1 HB.out)
    clear BK730
    clear BK731
    clear HB
    have BK730 := n0_
    have BK731 := n1_
    have HB := n2_
    clear n0_ n1_ n2_
    refine start_ (n := 12) (S := fun w' => w'.cell? ⟨gb730, 0, none⟩ = some (.int .i64 a0_0) ∧ w'.cell? ⟨gb730, 1, none⟩ = some (.int .i64 a0_1) ∧ w'.cell? ⟨gb730, 2, none⟩ = some (.int .i8 a0_2) ∧ w'.cell? ⟨gb730, 3, none⟩ = some (.int .i8 a0_3) ∧ w'.cell? ⟨gb731, 0, none⟩ = some (.int .i64 a1_0) ∧ w'.cell? ⟨gb731, 1, none⟩ = some (.int .i64 a1_1) ∧ w'.cell? ⟨gb731, 2, none⟩ = some (.int .i64 a1_2)) (ds := []) #[false, false, false, false, false, false, false, false, false, false, false, false] (by kernel_rfl) rfl rfl ⟨(blk_cell BK730.out 0).trans rfl, (blk_cell BK730.out 1).trans rfl, (blk_cell BK730.out 2).trans rfl, (blk_cell BK730.out 3).trans rfl, (blk_cell BK731.out 0).trans rfl, (blk_cell BK731.out 1).trans rfl, (blk_cell BK731.out 2).trans rfl⟩ (fun hHeld => ?_); refine with_tabW laws_FnExactFirstFailure.tab5 laws_FnExactFirstFailure.bits5 (fun HT_ HW_ => ?_)
    generalize w18.drew = w19 at BK730 BK731 HB hHeld ⊢
    refine pure_ (i := 4) (N := some 23) (v := ?_) (a' := ?_) #[false, false, false, false, true, false, false, false, false, false, false, false] rfl rfl (any_of HT_.out (by kernel_rfl)) (fun _ _ _ h => h) (Or.inl ⟨by rfl, ?_⟩) ?_ ?_
    rotate_left
    · intro w'
      go_simp
      with_reducible rfl
    rotate_left
    · simp only [Act.put, List.setIfInBounds_toArray, List.set_cons_zero, List.set_cons_succ, i64_w, i32_w]
      rfl
    refine take_ (i := 0) (N := some 19) (v := ?_) (a' := ?_) #[true, false, false, false, true, false, false, false, false, false, false, false] rfl rfl (take_ofW HT_.out HW_.out (by kernel_rfl)) (fun _ _ _ h => h) (Or.inl ⟨by rfl, ?_⟩) hHeld ?_ ?_
    rotate_left
    · rintro w' ⟨s0, s1, s2, s3, s4, s5, s6⟩
      go_simp
      with_reducible rfl
    rotate_left
    · simp only [Act.put, List.setIfInBounds_toArray, List.set_cons_zero, List.set_cons_succ, i64_w, i32_w]
      rfl
    refine take_ (i := 2) (N := some 21) (v := ?_) (a' := ?_) #[true, false, true, false, true, false, false, false, false, false, false, false] rfl rfl (take_ofW HT_.out HW_.out (by kernel_rfl)) (fun _ _ _ h => h) (Or.inl ⟨by rfl, ?_⟩) hHeld ?_ ?_
    rotate_left
    · rintro w' ⟨s0, s1, s2, s3, s4, s5, s6⟩
      go_simp
      with_reducible rfl
    rotate_left
    · simp only [Act.put, List.setIfInBounds_toArray, List.set_cons_zero, List.set_cons_succ, i64_w, i32_w]
      rfl
    refine one_ (i := 1) (N := some 20) #[true, true, true, false, true, false, false, false, false, false, false, false] rfl rfl (one_of HT_.out (by kernel_rfl)) (by decide) (fun K hK => ?_)
    refine goes_ Try.func71 (by kernel_rfl) rfl #[.agg #[.int .i64 a0_0, .int .i64 a0_1, .int .i8 a0_2, .int .i8 a0_3]] (by rfl) rfl rfl (by (try simp only [List.map_toArray, List.map_cons, List.map_nil]); first | done | rfl | (simp only [List.length_drop, List.length_take]; rfl)) ?_
    with_reducible refine (laws_toDeveloper.calls a0_0 a0_1 a0_2 a0_3 t733 t734 t735 t736 _ A8.out).mono ?_
    rintro e w20 ⟨rfl, hb⟩
    refine ⟨_, rfl, ?_⟩
    have n0_ := Aside0.mk (blk_below (g := gb730) (o := .cells #[.int .i64 a0_0, .int .i64 a0_1, .int .i8 a0_2, .int .i8 a0_3] 92 (0, 0)) (by (with_reducible repeat (first | refine blk_drewN ?_ _ | refine blk_drew ?_ | refine blk_alloc ?_ _)); exact BK730.out) hb)
    have n1_ := Aside0.mk (blk_below BK731.out hb)
    have n2_ := Aside0.mk (below_step HB.out hb)
    clear BK730
    clear BK731
    clear HB
    have BK730 := n0_
    have BK731 := n1_
    have HB := n2_
    clear n0_ n1_ n2_
    (try clear hb)
    (try clear hb2)
    (try clear hk)
    (try clear hi)
    refine hK.out _ _ ⟨(blk_cell BK730.out 0).trans rfl, (blk_cell BK730.out 1).trans rfl, (blk_cell BK730.out 2).trans rfl, (blk_cell BK730.out 3).trans rfl, (blk_cell BK731.out 0).trans rfl, (blk_cell BK731.out 1).trans rfl, (blk_cell BK731.out 2).trans rfl⟩ (fun hHeld => ?_)
    clear hK K
    refine norm_ (a' := ?_) ?_ ?_
    rotate_left
    · show Act.put _ (some 20) _ = _
      simp only [Act.put, List.setIfInBounds_toArray, List.set_cons_zero, List.set_cons_succ, i64_w, i32_w]
      rfl
    refine one_ (i := 3) (N := some 22) #[true, true, true, true, true, false, false, false, false, false, false, false] rfl rfl (one_of HT_.out (by kernel_rfl)) (by decide) (fun K hK => ?_)
    refine goes_ Try.func72 (by kernel_rfl) rfl #[.agg #[.int .i64 a1_0, .int .i64 a1_1, .int .i64 a1_2]] (by rfl) rfl rfl (by (try simp only [List.map_toArray, List.map_cons, List.map_nil]); first | done | rfl | (simp only [List.length_drop, List.length_take]; rfl)) ?_
    with_reducible refine (laws_toBath.calls a1_0 a1_1 a1_2 t737 t738 t739 _ A9.out).mono ?_
    rintro e w21 ⟨rfl, hb⟩
    refine ⟨_, rfl, ?_⟩
    have n0_ := Aside0.mk (blk_below (g := gb730) (o := .cells #[.int .i64 a0_0, .int .i64 a0_1, .int .i8 a0_2, .int .i8 a0_3] 92 (0, 0)) (by (with_reducible repeat (first | refine blk_drewN ?_ _ | refine blk_drew ?_ | refine blk_alloc ?_ _)); exact BK730.out) hb)
    have n1_ := Aside0.mk (blk_below BK731.out hb)
    have n2_ := Aside0.mk (below_step HB.out hb)
    clear BK730
    clear BK731
    clear HB
    have BK730 := n0_
    have BK731 := n1_
    have HB := n2_
    clear n0_ n1_ n2_
    (try clear hb)
    (try clear hb2)
    (try clear hk)
    (try clear hi)
    refine hK.out _ _ ⟨(blk_cell BK730.out 0).trans rfl, (blk_cell BK730.out 1).trans rfl, (blk_cell BK730.out 2).trans rfl, (blk_cell BK730.out 3).trans rfl, (blk_cell BK731.out 0).trans rfl, (blk_cell BK731.out 1).trans rfl, (blk_cell BK731.out 2).trans rfl⟩ (fun hHeld => ?_)
    clear hK K
    refine norm_ (a' := ?_) ?_ ?_
    rotate_left
    · show Act.put _ (some 22) _ = _
      simp only [Act.put, List.setIfInBounds_toArray, List.set_cons_zero, List.set_cons_succ, i64_w, i32_w]
      rfl
    refine one_ (i := 5) (N := some 24) #[true, true, true, true, true, true, false, false, false, false, false, false] rfl rfl (one_of HT_.out (by kernel_rfl)) (by decide) (fun K hK => ?_)
    refine goes_ Try.func73 (by kernel_rfl) rfl #[.slice A2 l2.length c2] (by rfl) rfl rfl (by (try simp only [List.map_toArray, List.map_cons, List.map_nil]); first | done | rfl | (simp only [List.length_drop, List.length_take]; rfl)) ?_
    with_reducible refine (laws_toActS.calls k _ _ l2 t740 _ ?side1 ?side2 A10.out).mono ?_
    (case side1 => repeat (first | exact (Kd.C_below HR2.out HB.out) | (with_reducible refine Kd.C_alloc ?_ _) | (with_reducible refine Kd.C_drewN ?_ _) | (with_reducible refine Kd.C_drew ?_)))
    (case side2 => exact HC2.out)
    rintro e w22 ⟨v741, rfl, ho0, hb⟩
    refine ⟨_, rfl, ?_⟩
    have n0_ := Aside0.mk (Kd.R_lower ho0 (below_size HB.out))
    have n1_ := Aside0.mk (blk_below BK730.out hb)
    have n2_ := Aside0.mk (blk_below BK731.out hb)
    have n3_ := Aside0.mk (below_step HB.out hb)
    clear BK730
    clear BK731
    clear HB
    have HO742 := n0_
    have BK730 := n1_
    have BK731 := n2_
    have HB := n3_
    clear n0_ n1_ n2_ n3_
    (try clear hb)
    (try clear hb2)
    (try clear hk)
    (try clear hi)
    (try clear ho0)
    obtain ⟨Ao23, co23, eo23⟩ := Kd.R_slice HO742.out
    (first | subst eo23 | (injection eo23 with f1_ f2_ f3_; have f4_ := f1_.symm; have f5_ := f3_.symm; clear f1_ f2_ f3_; subst f4_; subst f5_))
    refine hK.out _ _ ⟨(blk_cell BK730.out 0).trans rfl, (blk_cell BK730.out 1).trans rfl, (blk_cell BK730.out 2).trans rfl, (blk_cell BK730.out 3).trans rfl, (blk_cell BK731.out 0).trans rfl, (blk_cell BK731.out 1).trans rfl, (blk_cell BK731.out 2).trans rfl⟩ (fun hHeld => ?_)
    clear hK K
    refine norm_ (a' := ?_) ?_ ?_
    rotate_left
    · show Act.put _ (some 24) _ = _
      simp only [Act.put, List.setIfInBounds_toArray, List.set_cons_zero, List.set_cons_succ, i64_w, i32_w]
      rfl
    refine one_ (i := 6) (N := some 25) #[true, true, true, true, true, true, true, false, false, false, false, false] rfl rfl (one_of HT_.out (by kernel_rfl)) (by decide) (fun K hK => ?_)
    refine goes_ Try.func70 (by kernel_rfl) rfl #[.agg #[.int .i64 t733, .int .i64 t734, .int .i8 t735, .int .i8 t736], .agg #[.int .i64 t737, .int .i64 t738, .int .i64 t739], .slice Ao23 t740.length co23] (by rfl) rfl rfl (by (try simp only [List.map_toArray, List.map_cons, List.map_nil]); first | done | rfl | (simp only [List.length_drop, List.length_take]; rfl)) ?_
    with_reducible refine (spec_FirstFailure.calls k t733 t734 t735 t736 t737 t738 t739 _ _ t740 t743 t744 _ ?side1 ?side2 A11.out).mono ?_
    (case side1 => repeat (first | exact (Kd.R_reads' HO742.out).2.2 | (with_reducible refine Kd.C_alloc ?_ _) | (with_reducible refine Kd.C_drewN ?_ _) | (with_reducible refine Kd.C_drew ?_)))
    (case side2 => exact (Kd.R_reads' HO742.out).2.1)
    rintro e w24 ⟨rfl, hb⟩
    refine ⟨_, rfl, ?_⟩
    have n0_ := Aside0.mk (Kd.R_below HO742.out hb)
    have n1_ := Aside0.mk (blk_below BK730.out hb)
    have n2_ := Aside0.mk (blk_below BK731.out hb)
    have n3_ := Aside0.mk (below_step HB.out hb)
    clear HO742
    clear BK730
    clear BK731
    clear HB
    have HO742 := n0_
    have BK730 := n1_
    have BK731 := n2_
    have HB := n3_
    clear n0_ n1_ n2_ n3_
    (try clear hb)
    (try clear hb2)
    (try clear hk)
    (try clear hi)
    refine hK.out _ _ ⟨(blk_cell BK730.out 0).trans rfl, (blk_cell BK730.out 1).trans rfl, (blk_cell BK730.out 2).trans rfl, (blk_cell BK730.out 3).trans rfl, (blk_cell BK731.out 0).trans rfl, (blk_cell BK731.out 1).trans rfl, (blk_cell BK731.out 2).trans rfl⟩ (fun hHeld => ?_)
    clear hK K
    refine norm_ (a' := ?_) ?_ ?_
    rotate_left
    · show Act.put _ (some 25) _ = _
      simp only [Act.put, List.setIfInBounds_toArray, List.set_cons_zero, List.set_cons_succ, i64_w, i32_w]
      rfl
    refine pure_ (i := 7) (N := some 18) (v := ?_) (a' := ?_) #[true, true, true, true, true, true, true, true, false, false, false, false] rfl rfl (any_of HT_.out (by kernel_rfl)) (fun _ _ _ h => h) (Or.inl ⟨by rfl, ?_⟩) ?_ ?_
    rotate_left
    · intro w'
      go_simp
      with_reducible rfl
    rotate_left
    · simp only [Act.put, List.setIfInBounds_toArray, List.set_cons_zero, List.set_cons_succ, i64_w, i32_w]
      rfl
    refine pure_ (i := 8) (N := some 26) (v := ?_) (a' := ?_) #[true, true, true, true, true, true, true, true, true, false, false, false] rfl rfl (any_of HT_.out (by kernel_rfl)) (fun _ _ _ h => h) (Or.inl ⟨by rfl, ?_⟩) ?_ ?_
    rotate_left
    · intro w'
      go_simp
      with_reducible rfl
    rotate_left
    · simp only [Act.put, List.setIfInBounds_toArray, List.set_cons_zero, List.set_cons_succ, i64_w, i32_w]
      rfl
    refine pure_ (i := 9) (N := some 27) (v := ?_) (a' := ?_) #[true, true, true, true, true, true, true, true, true, true, false, false] rfl rfl (any_of HT_.out (by kernel_rfl)) (fun _ _ _ h => h) (Or.inl ⟨by rfl, ?_⟩) ?_ ?_
    rotate_left
    · intro w'
      go_simp
      with_reducible rfl
    rotate_left
    · simp only [Act.put, List.setIfInBounds_toArray, List.set_cons_zero, List.set_cons_succ, i64_w, i32_w]
      rfl
    refine pure_ (i := 10) (N := some 8) (v := ?_) (a' := ?_) #[true, true, true, true, true, true, true, true, true, true, true, false] rfl rfl (any_of HT_.out (by kernel_rfl)) (fun _ _ _ h => h) (Or.inl ⟨by rfl, ?_⟩) ?_ ?_
    rotate_left
    · intro w'
      go_simp
      with_reducible rfl
    rotate_left
    · simp only [Act.put, List.setIfInBounds_toArray, List.set_cons_zero, List.set_cons_succ, i64_w, i32_w]
      rfl
    refine pure_ (i := 11) (N := some 9) (v := ?_) (a' := ?_) #[true, true, true, true, true, true, true, true, true, true, true, true] rfl rfl (any_of HT_.out (by kernel_rfl)) (fun _ _ _ h => h) (Or.inl ⟨by rfl, ?_⟩) ?_ ?_
    rotate_left
    · intro w'
      go_simp
      with_reducible rfl
    rotate_left
    · simp only [Act.put, List.setIfInBounds_toArray, List.set_cons_zero, List.set_cons_succ, i64_w, i32_w]
      rfl
    refine done_ (done_of HT_.out (by kernel_rfl)) ?_
    try go_wp2_with (first | ((with_reducible refine gate_callee (f := 73) rfl ?_); refine goesL_ (some 29) rfl rfl Try.func73 (by kernel_rfl) rfl #[.slice A2 l2.length c2] rfl (by (try simp only [List.map_toArray, List.map_cons, List.map_nil]); first | done | rfl | (simp only [List.length_drop, List.length_take]; rfl)) ?_; (with_reducible refine (laws_toActS.calls k _ _ l2 t745 _ ?side1 ?side2 A12.out).mono ?_); (case side1 => repeat (first | exact (Kd.C_below HR2.out HB.out) | (with_reducible refine Kd.C_alloc ?_ _) | (with_reducible refine Kd.C_drewN ?_ _) | (with_reducible refine Kd.C_drew ?_))); (case side2 => exact HC2.out); rintro e w25 ⟨v746, rfl, ho0, hb⟩; refine ⟨_, rfl, ?_⟩; have n0_ := Aside0.mk (Kd.R_elder' HO742.out (Kd.R_base ho0) hb); have n1_ := Aside0.mk (Kd.R_lower (Kd.R_new' ho0 (Kd.R_lt HO742.out)) (below_size HB.out)); have n2_ := Aside0.mk (blk_below BK730.out hb); have n3_ := Aside0.mk (blk_below BK731.out hb); have n4_ := Aside0.mk (below_step HB.out hb); clear HO742; clear BK730; clear BK731; clear HB; have HO742 := n0_; have HO747 := n1_; have BK730 := n2_; have BK731 := n3_; have HB := n4_; clear n0_ n1_ n2_ n3_ n4_; (try clear hb); (try clear hb2); (try clear hk); (try clear hi); (try clear ho0)))
    have n0_ := Aside0.mk (Kd.R_drew HO742.out)
    have n1_ := Aside0.mk (Kd.R_drew HO747.out)
    have n2_ := Aside0.mk (blk_drew BK730.out)
    have n3_ := Aside0.mk (blk_drew BK731.out)
    have n4_ := Aside0.mk (below_drew1 HB.out)
    clear HO742
    clear HO747
    clear BK730
    clear BK731
    clear HB
    have HO742 := n0_
    have HO747 := n1_
    have BK730 := n2_
    have BK731 := n3_
    have HB := n4_
    clear n0_ n1_ n2_ n3_ n4_
    refine start_ (n := 11) (S := fun w' => w'.cell? ⟨gb730, 0, none⟩ = some (.int .i64 a0_0) ∧ w'.cell? ⟨gb730, 1, none⟩ = some (.int .i64 a0_1) ∧ w'.cell? ⟨gb730, 2, none⟩ = some (.int .i8 a0_2) ∧ w'.cell? ⟨gb730, 3, none⟩ = some (.int .i8 a0_3) ∧ w'.cell? ⟨gb731, 0, none⟩ = some (.int .i64 a1_0) ∧ w'.cell? ⟨gb731, 1, none⟩ = some (.int .i64 a1_1) ∧ w'.cell? ⟨gb731, 2, none⟩ = some (.int .i64 a1_2)) (ds := []) #[false, false, false, false, false, false, false, false, false, false, false] (by kernel_rfl) rfl rfl ⟨(blk_cell BK730.out 0).trans rfl, (blk_cell BK730.out 1).trans rfl, (blk_cell BK730.out 2).trans rfl, (blk_cell BK730.out 3).trans rfl, (blk_cell BK731.out 0).trans rfl, (blk_cell BK731.out 1).trans rfl, (blk_cell BK731.out 2).trans rfl⟩ (fun hHeld => ?_); refine with_tabW laws_FnExactFirstFailure.tab7 laws_FnExactFirstFailure.bits7 (fun HT_ HW_ => ?_)
    generalize w25.drew = w26 at HO742 HO747 BK730 BK731 HB hHeld ⊢
    refine pure_ (i := 4) (N := some 35) (v := ?_) (a' := ?_) #[false, false, false, false, true, false, false, false, false, false, false] rfl rfl (any_of HT_.out (by kernel_rfl)) (fun _ _ _ h => h) (Or.inl ⟨by rfl, ?_⟩) ?_ ?_
    rotate_left
    · intro w'
      go_simp
      with_reducible rfl
    rotate_left
    · simp only [Act.put, List.setIfInBounds_toArray, List.set_cons_zero, List.set_cons_succ, i64_w, i32_w]
      rfl
    refine take_ (i := 0) (N := some 31) (v := ?_) (a' := ?_) #[true, false, false, false, true, false, false, false, false, false, false] rfl rfl (take_ofW HT_.out HW_.out (by kernel_rfl)) (fun _ _ _ h => h) (Or.inl ⟨by rfl, ?_⟩) hHeld ?_ ?_
    rotate_left
    · rintro w' ⟨s0, s1, s2, s3, s4, s5, s6⟩
      go_simp
      with_reducible rfl
    rotate_left
    · simp only [Act.put, List.setIfInBounds_toArray, List.set_cons_zero, List.set_cons_succ, i64_w, i32_w]
      rfl
    refine take_ (i := 2) (N := some 33) (v := ?_) (a' := ?_) #[true, false, true, false, true, false, false, false, false, false, false] rfl rfl (take_ofW HT_.out HW_.out (by kernel_rfl)) (fun _ _ _ h => h) (Or.inl ⟨by rfl, ?_⟩) hHeld ?_ ?_
    rotate_left
    · rintro w' ⟨s0, s1, s2, s3, s4, s5, s6⟩
      go_simp
      with_reducible rfl
    rotate_left
    · simp only [Act.put, List.setIfInBounds_toArray, List.set_cons_zero, List.set_cons_succ, i64_w, i32_w]
      rfl
    refine one_ (i := 1) (N := some 32) #[true, true, true, false, true, false, false, false, false, false, false] rfl rfl (one_of HT_.out (by kernel_rfl)) (by decide) (fun K hK => ?_)
    refine goes_ Try.func71 (by kernel_rfl) rfl #[.agg #[.int .i64 a0_0, .int .i64 a0_1, .int .i8 a0_2, .int .i8 a0_3]] (by rfl) rfl rfl (by (try simp only [List.map_toArray, List.map_cons, List.map_nil]); first | done | rfl | (simp only [List.length_drop, List.length_take]; rfl)) ?_
    with_reducible refine (laws_toDeveloper.calls a0_0 a0_1 a0_2 a0_3 t748 t749 t750 t751 _ A13.out).mono ?_
    rintro e w27 ⟨rfl, hb⟩
    refine ⟨_, rfl, ?_⟩
    have n0_ := Aside0.mk (Kd.R_below HO742.out hb)
    have n1_ := Aside0.mk (Kd.R_below HO747.out hb)
    have n2_ := Aside0.mk (blk_below BK730.out hb)
    have n3_ := Aside0.mk (blk_below BK731.out hb)
    have n4_ := Aside0.mk (below_step HB.out hb)
    clear HO742
    clear HO747
    clear BK730
    clear BK731
    clear HB
    have HO742 := n0_
    have HO747 := n1_
    have BK730 := n2_
    have BK731 := n3_
    have HB := n4_
    clear n0_ n1_ n2_ n3_ n4_
    (try clear hb)
    (try clear hb2)
    (try clear hk)
    (try clear hi)
    refine hK.out _ _ ⟨(blk_cell BK730.out 0).trans rfl, (blk_cell BK730.out 1).trans rfl, (blk_cell BK730.out 2).trans rfl, (blk_cell BK730.out 3).trans rfl, (blk_cell BK731.out 0).trans rfl, (blk_cell BK731.out 1).trans rfl, (blk_cell BK731.out 2).trans rfl⟩ (fun hHeld => ?_)
    clear hK K
    refine norm_ (a' := ?_) ?_ ?_
    rotate_left
    · show Act.put _ (some 32) _ = _
      simp only [Act.put, List.setIfInBounds_toArray, List.set_cons_zero, List.set_cons_succ, i64_w, i32_w]
      rfl
    refine one_ (i := 3) (N := some 34) #[true, true, true, true, true, false, false, false, false, false, false] rfl rfl (one_of HT_.out (by kernel_rfl)) (by decide) (fun K hK => ?_)
    refine goes_ Try.func72 (by kernel_rfl) rfl #[.agg #[.int .i64 a1_0, .int .i64 a1_1, .int .i64 a1_2]] (by rfl) rfl rfl (by (try simp only [List.map_toArray, List.map_cons, List.map_nil]); first | done | rfl | (simp only [List.length_drop, List.length_take]; rfl)) ?_
    with_reducible refine (laws_toBath.calls a1_0 a1_1 a1_2 t752 t753 t754 _ A14.out).mono ?_
    rintro e w28 ⟨rfl, hb⟩
    refine ⟨_, rfl, ?_⟩
    have n0_ := Aside0.mk (Kd.R_below HO742.out hb)
    have n1_ := Aside0.mk (Kd.R_below HO747.out hb)
    have n2_ := Aside0.mk (blk_below BK730.out hb)
    have n3_ := Aside0.mk (blk_below BK731.out hb)
    have n4_ := Aside0.mk (below_step HB.out hb)
    clear HO742
    clear HO747
    clear BK730
    clear BK731
    clear HB
    have HO742 := n0_
    have HO747 := n1_
    have BK730 := n2_
    have BK731 := n3_
    have HB := n4_
    clear n0_ n1_ n2_ n3_ n4_
    (try clear hb)
    (try clear hb2)
    (try clear hk)
    (try clear hi)
    obtain ⟨Ao29, co29, eo29⟩ := Kd.R_slice HO747.out
    (first | subst eo29 | (injection eo29 with f1_ f2_ f3_; have f4_ := f1_.symm; have f5_ := f3_.symm; clear f1_ f2_ f3_; subst f4_; subst f5_))
    refine hK.out _ _ ⟨(blk_cell BK730.out 0).trans rfl, (blk_cell BK730.out 1).trans rfl, (blk_cell BK730.out 2).trans rfl, (blk_cell BK730.out 3).trans rfl, (blk_cell BK731.out 0).trans rfl, (blk_cell BK731.out 1).trans rfl, (blk_cell BK731.out 2).trans rfl⟩ (fun hHeld => ?_)
    clear hK K
    refine norm_ (a' := ?_) ?_ ?_
    rotate_left
    · show Act.put _ (some 34) _ = _
      simp only [Act.put, List.setIfInBounds_toArray, List.set_cons_zero, List.set_cons_succ, i64_w, i32_w]
      rfl
    refine one_ (i := 5) (N := some 36) #[true, true, true, true, true, true, false, false, false, false, false] rfl rfl (one_of HT_.out (by kernel_rfl)) (by decide) (fun K hK => ?_)
    refine goes_ Try.func74 (by kernel_rfl) rfl #[.agg #[.int .i64 t748, .int .i64 t749, .int .i8 t750, .int .i8 t751], .agg #[.int .i64 t752, .int .i64 t753, .int .i64 t754], .slice Ao29 t745.length co29] (by rfl) rfl rfl (by (try simp only [List.map_toArray, List.map_cons, List.map_nil]); first | done | rfl | (simp only [List.length_drop, List.length_take]; rfl)) ?_
    with_reducible refine (impl_FirstFailure.calls k t748 t749 t750 t751 t752 t753 t754 _ _ t745 t755 t756 _ ?side1 ?side2 A15.out).mono ?_
    (case side1 => repeat (first | exact (Kd.R_reads' HO747.out).2.2 | (with_reducible refine Kd.C_alloc ?_ _) | (with_reducible refine Kd.C_drewN ?_ _) | (with_reducible refine Kd.C_drew ?_)))
    (case side2 => exact (Kd.R_reads' HO747.out).2.1)
    rintro e w30 ⟨rfl, hb⟩
    refine ⟨_, rfl, ?_⟩
    have n0_ := Aside0.mk (Kd.R_below HO742.out hb)
    have n1_ := Aside0.mk (Kd.R_below HO747.out hb)
    have n2_ := Aside0.mk (blk_below BK730.out hb)
    have n3_ := Aside0.mk (blk_below BK731.out hb)
    have n4_ := Aside0.mk (below_step HB.out hb)
    clear HO742
    clear HO747
    clear BK730
    clear BK731
    clear HB
    have HO742 := n0_
    have HO747 := n1_
    have BK730 := n2_
    have BK731 := n3_
    have HB := n4_
    clear n0_ n1_ n2_ n3_ n4_
    (try clear hb)
    (try clear hb2)
    (try clear hk)
    (try clear hi)
    refine hK.out _ _ ⟨(blk_cell BK730.out 0).trans rfl, (blk_cell BK730.out 1).trans rfl, (blk_cell BK730.out 2).trans rfl, (blk_cell BK730.out 3).trans rfl, (blk_cell BK731.out 0).trans rfl, (blk_cell BK731.out 1).trans rfl, (blk_cell BK731.out 2).trans rfl⟩ (fun hHeld => ?_)
    clear hK K
    refine norm_ (a' := ?_) ?_ ?_
    rotate_left
    · show Act.put _ (some 36) _ = _
      simp only [Act.put, List.setIfInBounds_toArray, List.set_cons_zero, List.set_cons_succ, i64_w, i32_w]
      rfl
    refine pure_ (i := 6) (N := some 30) (v := ?_) (a' := ?_) #[true, true, true, true, true, true, true, false, false, false, false] rfl rfl (any_of HT_.out (by kernel_rfl)) (fun _ _ _ h => h) (Or.inl ⟨by rfl, ?_⟩) ?_ ?_
    rotate_left
    · intro w'
      go_simp
      with_reducible rfl
    rotate_left
    · simp only [Act.put, List.setIfInBounds_toArray, List.set_cons_zero, List.set_cons_succ, i64_w, i32_w]
      rfl
    refine pure_ (i := 7) (N := some 37) (v := ?_) (a' := ?_) #[true, true, true, true, true, true, true, true, false, false, false] rfl rfl (any_of HT_.out (by kernel_rfl)) (fun _ _ _ h => h) (Or.inl ⟨by rfl, ?_⟩) ?_ ?_
    rotate_left
    · intro w'
      go_simp
      with_reducible rfl
    rotate_left
    · simp only [Act.put, List.setIfInBounds_toArray, List.set_cons_zero, List.set_cons_succ, i64_w, i32_w]
      rfl
    refine pure_ (i := 8) (N := some 38) (v := ?_) (a' := ?_) #[true, true, true, true, true, true, true, true, true, false, false] rfl rfl (any_of HT_.out (by kernel_rfl)) (fun _ _ _ h => h) (Or.inl ⟨by rfl, ?_⟩) ?_ ?_
    rotate_left
    · intro w'
      go_simp
      with_reducible rfl
    rotate_left
    · simp only [Act.put, List.setIfInBounds_toArray, List.set_cons_zero, List.set_cons_succ, i64_w, i32_w]
      rfl
    refine pure_ (i := 9) (N := some 11) (v := ?_) (a' := ?_) #[true, true, true, true, true, true, true, true, true, true, false] rfl rfl (any_of HT_.out (by kernel_rfl)) (fun _ _ _ h => h) (Or.inl ⟨by rfl, ?_⟩) ?_ ?_
    rotate_left
    · intro w'
      go_simp
      with_reducible rfl
    rotate_left
    · simp only [Act.put, List.setIfInBounds_toArray, List.set_cons_zero, List.set_cons_succ, i64_w, i32_w]
      rfl
    refine pure_ (i := 10) (N := some 12) (v := ?_) (a' := ?_) #[true, true, true, true, true, true, true, true, true, true, true] rfl rfl (any_of HT_.out (by kernel_rfl)) (fun _ _ _ h => h) (Or.inl ⟨by rfl, ?_⟩) ?_ ?_
    rotate_left
    · intro w'
      go_simp
      with_reducible rfl
    rotate_left
    · simp only [Act.put, List.setIfInBounds_toArray, List.set_cons_zero, List.set_cons_succ, i64_w, i32_w]
      rfl
    refine done_ (done_of HT_.out (by kernel_rfl)) ?_
    go_upto_region 8 with (fail)
    go_cut [46] (fun v46 wc => ∃ (kq : Nat) (x46_15 : Bool), v46 = .bool x46_15 ∧ Aside0 (laws_FnExactFirstFailure.j0 kq l2 t745 x46_15 = some r) ∧ Aside0 (kq ≤ k) ∧ Aside0 (Kd.R k161 161 wc w.heap.size (fun _ => True) (.slice Ao29 t745.length co29) t745) ∧ Aside0 (wc.heap[gb730]? = some (.cells #[.int .i64 a0_0, .int .i64 a0_1, .int .i8 a0_2, .int .i8 a0_3] 92 (0, 0))) ∧ Aside0 (wc.heap[gb731]? = some (.cells #[.int .i64 a1_0, .int .i64 a1_1, .int .i64 a1_2] 93 (0, 0))) ∧ Aside0 (Below w.heap.size w wc))
    case first =>
      have H := HC16.out
      clear HC16
      by_cases c31 : t755 = t743
      · rw [if_pos c31] at H
        have c31b0 : (t755 == t743) = true := beq_iff_eq.mpr c31
        have c31b1 : (t755 != t743) = false := bne_eq_false_iff_eq.mpr c31
        clear c31
        (first | rw [c31b0] | (simp only [i64_w, i32_w]; rw [c31b0]) | skip)
        have H' := Aside0.mk H
        clear H
        go_wp2
        go_meet
        case rel => exact ⟨_, ((t756 != t744)), (by first | rfl | (simp; done) | (simp [*]; done)), H', ⟨by first | omega | exact Nat.le_refl _⟩, ⟨by (with_reducible repeat (first | apply Kd.R_alloc | apply Kd.R_drewN | apply Kd.R_drew)); exact Kd.R_mono HO747.out (fun _ hk => trivial)⟩, ⟨by (with_reducible repeat (first | refine blk_drewN ?_ _ | refine blk_drew ?_ | refine blk_alloc ?_ _)); exact BK730.out⟩, ⟨by (with_reducible repeat (first | refine blk_drewN ?_ _ | refine blk_drew ?_ | refine blk_alloc ?_ _)); exact BK731.out⟩, ⟨by repeat (first | (with_reducible first | exact HB.out | apply below_alloc | apply pw_below_drewN | apply below_drew1 | refine below_set ?_ GE730.out | refine below_set ?_ GE731.out) | exact HB.out)⟩⟩
      · rw [if_neg c31] at H
        have c31b0 : (t755 == t743) = false := beq_eq_false_iff_ne.mpr c31
        have c31b1 : (t755 != t743) = true := bne_iff_ne.mpr c31
        (first | rw [c31b0] | (simp only [i64_w, i32_w]; rw [c31b0]) | skip)
        have H' := Aside0.mk H
        clear H
        go_wp2
        go_meet
        case rel => exact ⟨_, (true), (by first | rfl | (simp; done) | (simp [*]; done)), H', ⟨by first | omega | exact Nat.le_refl _⟩, ⟨by (with_reducible repeat (first | apply Kd.R_alloc | apply Kd.R_drewN | apply Kd.R_drew)); exact Kd.R_mono HO747.out (fun _ hk => trivial)⟩, ⟨by (with_reducible repeat (first | refine blk_drewN ?_ _ | refine blk_drew ?_ | refine blk_alloc ?_ _)); exact BK730.out⟩, ⟨by (with_reducible repeat (first | refine blk_drewN ?_ _ | refine blk_drew ?_ | refine blk_alloc ?_ _)); exact BK731.out⟩, ⟨by repeat (first | (with_reducible first | exact HB.out | apply below_alloc | apply pw_below_drewN | apply below_drew1 | refine below_set ?_ GE730.out | refine below_set ?_ GE731.out) | exact HB.out)⟩⟩
    case rest =>
      clear HC16
      try clear c2
      try clear p2
      try clear c3
      try clear c5
      try clear c5b0
      try clear c6
      try clear c7
      try clear c9
      try clear c31
      try clear c31b0
      try clear c31b1
      obtain ⟨kq, x46_15, rfl, HA, HJ15, HO_10, BK730, BK731, HB⟩ := hcut
      cases kq with
      | zero => exact absurd HA.out (by simp [laws_FnExactFirstFailure.j0])
      | succ kj15 =>
        have H := HA.out
        clear HA
        simp only [laws_FnExactFirstFailure.j0] at H
        by_cases c32 : x46_15 = true
        · subst c32
          have H1 : (some false) = some r := by rw [if_pos rfl] at H; exact H
          clear H
          have H := H1
          clear H1
          exact absurd (Option.some.inj H) (by rw [hT_.out]; decide)
        · replace c32 := Bool.eq_false_iff.mpr c32
          subst c32
          have H1 : ((laws_toActS.f kj15 l2).bind fun t757 => ((laws_eqActS.f kj15 t745 t757).bind fun t760 => (if t760 = true then (some true) else (some false)))) = some r := by rw [if_neg (show ¬ (false = true) by decide)] at H; exact H
          clear H
          have H := H1
          clear H1
          replace H := Option.bind_eq_some_iff.mp H
          obtain ⟨t757, A330, H⟩ := H
          replace H : ((laws_eqActS.f kj15 t745 t757).bind fun t760 => (if t760 = true then (some true) else (some false))) = some r := H
          have A33 := Aside0.mk A330
          clear A330
          replace H := Option.bind_eq_some_iff.mp H
          obtain ⟨t760, A340, H⟩ := H
          replace H : (if t760 = true then (some true) else (some false)) = some r := H
          have A34 := Aside0.mk A340
          clear A340
          by_cases c35 : t760 = true
          · subst c35
            have H1 : (some true) = some r := by rw [if_pos rfl] at H; exact H
            clear H
            have H := H1
            clear H1
            obtain rfl := Option.some.inj H
            go_wp2_with (first | ((with_reducible refine gate_callee (f := 73) rfl ?_); refine goesL_ (some 49) rfl rfl Try.func73 (by kernel_rfl) rfl #[.slice A2 l2.length c2] rfl (by (try simp only [List.map_toArray, List.map_cons, List.map_nil]); first | done | rfl | (simp only [List.length_drop, List.length_take]; rfl)) ?_; (with_reducible refine (laws_toActS.calls kj15 _ _ l2 t757 _ ?side1 ?side2 A33.out).mono ?_); (case side1 => repeat (first | exact (Kd.C_below HR2.out HB.out) | (with_reducible refine Kd.C_alloc ?_ _) | (with_reducible refine Kd.C_drewN ?_ _) | (with_reducible refine Kd.C_drew ?_))); (case side2 => exact HC2.out); rintro e w36 ⟨v758, rfl, ho0, hb⟩; refine ⟨_, rfl, ?_⟩; have n0_ := Aside0.mk (Kd.R_elder' HO_10.out (Kd.R_base ho0) hb); have n1_ := Aside0.mk (Kd.R_lower (Kd.R_new' ho0 (Kd.R_lt HO_10.out)) (below_size HB.out)); have n2_ := Aside0.mk (blk_below BK730.out hb); have n3_ := Aside0.mk (blk_below BK731.out hb); have n4_ := Aside0.mk (below_step HB.out hb); clear HO_10; clear BK730; clear BK731; clear HB; have HO_10 := n0_; have HO759 := n1_; have BK730 := n2_; have BK731 := n3_; have HB := n4_; clear n0_ n1_ n2_ n3_ n4_; (try clear hb); (try clear hb2); (try clear hk); (try clear hi); (try clear ho0); obtain ⟨Ao37, co37, eo37⟩ := Kd.R_slice HO759.out; subst eo37) | ((with_reducible refine gate_callee (f := 75) rfl ?_); refine goesL_ (some 50) rfl rfl Try.func75 (by kernel_rfl) rfl #[.slice Ao29 t745.length co29, .slice Ao37 t757.length co37] rfl (by (try simp only [List.map_toArray, List.map_cons, List.map_nil]); first | done | rfl | (simp only [List.length_drop, List.length_take]; rfl)) ?_; (with_reducible refine (laws_eqActS.calls kj15 _ _ t745 _ _ t757 true _ ?side1 ?side2 ?side3 ?side4 A34.out).mono ?_); (case side1 => repeat (first | exact (Kd.R_reads' HO_10.out).2.2 | (with_reducible refine Kd.C_alloc ?_ _) | (with_reducible refine Kd.C_drewN ?_ _) | (with_reducible refine Kd.C_drew ?_))); (case side2 => exact (Kd.R_reads' HO_10.out).2.1); (case side3 => repeat (first | exact (Kd.R_reads' HO759.out).2.2 | (with_reducible refine Kd.C_alloc ?_ _) | (with_reducible refine Kd.C_drewN ?_ _) | (with_reducible refine Kd.C_drew ?_))); (case side4 => exact (Kd.R_reads' HO759.out).2.1); rintro e w38 ⟨rfl, hb⟩; refine ⟨_, rfl, ?_⟩; have n0_ := Aside0.mk (Kd.R_below HO_10.out hb); have n1_ := Aside0.mk (Kd.R_below HO759.out hb); have n2_ := Aside0.mk (blk_below BK730.out hb); have n3_ := Aside0.mk (blk_below BK731.out hb); have n4_ := Aside0.mk (below_step HB.out hb); clear HO_10; clear HO759; clear BK730; clear BK731; clear HB; have HO_10 := n0_; have HO759 := n1_; have BK730 := n2_; have BK731 := n3_; have HB := n4_; clear n0_ n1_ n2_ n3_ n4_; (try clear hb); (try clear hb2); (try clear hk); (try clear hi)))
            go_ret
            exact ⟨by first | rfl | (simp [errW_none, errW_some] <;> rfl) | (simp [*, errW_none, errW_some] <;> rfl), by repeat (first | (with_reducible first | exact HB.out | apply below_alloc | apply pw_below_drewN | apply below_drew1 | refine below_set ?_ GE730.out | refine below_set ?_ GE731.out) | exact HB.out)⟩
          · replace c35 := Bool.eq_false_iff.mpr c35
            subst c35
            have H1 : (some false) = some r := by rw [if_neg (show ¬ (false = true) by decide)] at H; exact H
            clear H
            have H := H1
            clear H1
            exact absurd (Option.some.inj H) (by rw [hT_.out]; decide)

end Go.Proofs.Ytcimollhdocphaa.Q
