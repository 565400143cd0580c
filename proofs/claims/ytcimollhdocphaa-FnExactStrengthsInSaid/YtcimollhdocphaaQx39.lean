-- Written by wip/mk.py of this repository (a run of the kit's print with hand-proved leaves added); Lean checks it.
import Derived.Test.YtcimollhdocphaaQx0
import Derived.Test.YtcimollhdocphaaQx7
import Derived.Test.YtcimollhdocphaaQx20
import Derived.Test.YtcimollhdocphaaQx21
import Derived.Test.YtcimollhdocphaaQx22
namespace Go.Proofs.Ytcimollhdocphaa.Q
open Go.RowKit Go.Proofs.YtcimollhdocphaaW.PrintWords Go.Proofs.YtcimollhdocphaaW.PrintLast Go.Proofs.YtcimollhdocphaaW.PrintMore
attribute [local go_sem] max2_int min2_int max_two min_two max_three min_three max_four min_four   -- for this text's walks alone
set_option linter.unusedVariables false
set_option linter.unusedSimpArgs false

/-! ### spec_StrengthsIn: function 79 -/
def spec_StrengthsIn.l0 : Nat → List (S73) → List Int → Int → Int → Int → Int → Int → Option (List Int × Int)
  | 0, _, _, _, _, _, _, _ => none
  | k + 1, x9, x11, x12, x824000, x824001, x824002, x824003 => if x12 < (x9.length : Int) then (if 0 ≤ x12 then ((spec_l04Strength.f x824000 x824001 x824002 x824003 ((rd_T73 x9 x12).f0) ((rd_T73 x9 x12).f1) ((rd_T73 x9 x12).f2)).bind fun t840 => (if x11.length < 17592186044416 then (spec_StrengthsIn.l0 k x9 (x11 ++ [t840]) (wrap64 (x12 + 1)) x824000 x824001 x824002 x824003) else (none))) else (none)) else (some (x11, 0))
def spec_StrengthsIn.f (k : Nat) (a0_0 : Int) (a0_1 : Int) (a0_2 : Int) (a0_3 : Int) (a1_0 : Int) (a1_1 : Int) (a1_2 : Int) (l2 : List (S161)) : Option (List Int × Int) := (spec_l04Listed.f k a0_0 a0_1 a0_2 a0_3 a1_0 a1_1 a1_2 l2).bind fun t825 => (if t825 = 0 then ((spec_l04Do.f k a0_0 a0_1 a0_2 a0_3 a1_0 a1_1 a1_2 l2).bind fun bt829 => (if bt829.2 = 0 then (spec_StrengthsIn.l0 k bt829.1 (([] : List Int)) 0 a0_0 a0_1 a0_2 a0_3) else (some ((([] : List Int)), bt829.2)))) else (some ((([] : List Int)), t825)))
theorem spec_StrengthsIn.mono_l : ∀ k, (∀ y0 y1 y2 y3 y4 y5 y6, LeO (spec_StrengthsIn.l0 k y0 y1 y2 y3 y4 y5 y6) (spec_StrengthsIn.l0 (k + 1) y0 y1 y2 y3 y4 y5 y6))
  | 0 => fun _ _ _ _ _ _ _ r h => by simp [spec_StrengthsIn.l0] at h
  | k + 1 => by
    have ih0 := spec_StrengthsIn.mono_l k
    · intro y0 y1 y2 y3 y4 y5 y6
      unfold spec_StrengthsIn.l0
      repeat' first
      | (with_reducible exact ih0 _ _ _ _ _ _ _)
      | (with_reducible exact spec_l04Do.mono _ _ _ _ _ _ _ _ _)
      | (with_reducible exact spec_l04Listed.mono _ _ _ _ _ _ _ _ _)
      | (with_reducible exact LeO.refl _)
      | (with_reducible exact LeO.none _)
      | (with_reducible refine LeO.ite ?_ ?_)
      | (with_reducible refine LeO.bind ?_ (fun _ => ?_))
      | exact ih0 _ _ _ _ _ _ _
      | exact spec_l04Do.mono _ _ _ _ _ _ _ _ _
      | exact spec_l04Listed.mono _ _ _ _ _ _ _ _ _
      | exact LeO.none _
      | refine LeO.ite ?_ ?_
      | refine LeO.bind ?_ (fun _ => ?_)
theorem spec_StrengthsIn.mono : ∀ a0 a1 a2 a3 a4 a5 a6 a7 k, LeO (spec_StrengthsIn.f k a0 a1 a2 a3 a4 a5 a6 a7) (spec_StrengthsIn.f (k + 1) a0 a1 a2 a3 a4 a5 a6 a7) := by
  intro a0 a1 a2 a3 a4 a5 a6 a7 k
  have ih0 := spec_StrengthsIn.mono_l k
  unfold spec_StrengthsIn.f
  repeat' first
      | (with_reducible exact ih0 _ _ _ _ _ _ _)
      | (with_reducible exact spec_l04Do.mono _ _ _ _ _ _ _ _ _)
      | (with_reducible exact spec_l04Listed.mono _ _ _ _ _ _ _ _ _)
      | (with_reducible exact LeO.refl _)
      | (with_reducible exact LeO.none _)
      | (with_reducible refine LeO.ite ?_ ?_)
      | (with_reducible refine LeO.bind ?_ (fun _ => ?_))
      | exact ih0 _ _ _ _ _ _ _
      | exact spec_l04Do.mono _ _ _ _ _ _ _ _ _
      | exact spec_l04Listed.mono _ _ _ _ _ _ _ _ _
      | exact LeO.none _
      | refine LeO.ite ?_ ?_
      | refine LeO.bind ?_ (fun _ => ?_)
def spec_StrengthsIn.T11 : Bool × List (List Nat × List Nat) := (true, [([], []), ([], []), ([], []), ([], []), ([2, 3], [2, 3]), ([4], [4]), ([1, 5], [1, 5]), ([6], [6]), ([0, 7, 6], [0, 7]), ([8, 8, 0, 1, 2, 3, 4, 5, 6, 7, 8], [0, 8])])
def spec_StrengthsIn.B11 : List Nat := [0, 0, 0, 0, 12, 28, 62, 126, 255, 511]
theorem spec_StrengthsIn.tab11 : rtab .any (opsOf Try.f79 11) = spec_StrengthsIn.T11 := by kernel_rfl
theorem spec_StrengthsIn.bits11 : waitsOk spec_StrengthsIn.T11.2 spec_StrengthsIn.B11 = true := by kernel_rfl
set_option maxHeartbeats 8000000 in
set_option maxRecDepth 100000 in
theorem spec_StrengthsIn.calls (k : Nat) (a0_0 : Int) (a0_1 : Int) (a0_2 : Int) (a0_3 : Int) (a1_0 : Int) (a1_1 : Int) (a1_2 : Int) (A2 : Option Addr) (c2 : Nat) (l2 : List (S161)) (r1 : List Int) (r2 : Int) (w : World) (hr2 : Kd.C k161 w A2 l2.length l2) (hc2 : l2.length ≤ c2) (h : spec_StrengthsIn.f k a0_0 a0_1 a0_2 a0_3 a1_0 a1_1 a1_2 l2 = some (r1, r2)) :
    Calls Try.prog 79 #[.agg #[.int .i64 a0_0, .int .i64 a0_1, .int .i8 a0_2, .int .i8 a0_3], .agg #[.int .i64 a1_0, .int .i64 a1_1, .int .i64 a1_2], .slice A2 l2.length c2] w fun e w' => ∃ v0_ : Value, e = .returned (.tuple #[v0_, .int .i64 r2]) ∧ Kd.R (Kd.int .i64) 2 w' w.heap.size (fun _ => True) v0_ r1 ∧ Below w.heap.size w w' := by
  have hu71 := Try.underlying71
  have hu73 := Try.underlying73
  have HR2 := Aside0.mk hr2
  have HC2 := Aside0.mk hc2
  clear hr2 hc2
  have HB := Aside0.mk (Below.refl w.heap.size w)
  have H : ((spec_l04Listed.f k a0_0 a0_1 a0_2 a0_3 a1_0 a1_1 a1_2 l2).bind fun t825 => (if t825 = 0 then ((spec_l04Do.f k a0_0 a0_1 a0_2 a0_3 a1_0 a1_1 a1_2 l2).bind fun bt829 => (if bt829.2 = 0 then (spec_StrengthsIn.l0 k bt829.1 (([] : List Int)) 0 a0_0 a0_1 a0_2 a0_3) else (some ((([] : List Int)), bt829.2)))) else (some ((([] : List Int)), t825)))) = some (r1, r2) := h
  clear h
  replace H := Option.bind_eq_some_iff.mp H
  obtain ⟨t825, A40, H⟩ := H
  replace H : (if t825 = 0 then ((spec_l04Do.f k a0_0 a0_1 a0_2 a0_3 a1_0 a1_1 a1_2 l2).bind fun bt829 => (if bt829.2 = 0 then (spec_StrengthsIn.l0 k bt829.1 (([] : List Int)) 0 a0_0 a0_1 a0_2 a0_3) else (some ((([] : List Int)), bt829.2)))) else (some ((([] : List Int)), t825))) = some (r1, r2) := H
  have A4 := Aside0.mk A40
  clear A40
  by_cases c5 : t825 = 0
  · rw [if_pos c5] at H
    have c5b0 : (t825 == 0) = true := beq_iff_eq.mpr c5
    have c5b1 : (t825 != 0) = false := bne_eq_false_iff_eq.mpr c5
    clear c5
    replace H := Option.bind_eq_some_iff.mp H
    obtain ⟨⟨t829, t832⟩, A60, H⟩ := H
    replace H : (if t832 = 0 then (spec_StrengthsIn.l0 k t829 (([] : List Int)) 0 a0_0 a0_1 a0_2 a0_3) else (some ((([] : List Int)), t832))) = some (r1, r2) := H
    have A6 := Aside0.mk A60
    clear A60
    by_cases c7 : t832 = 0
    · rw [if_pos c7] at H
      have c7b0 : (t832 == 0) = true := beq_iff_eq.mpr c7
      have c7b1 : (t832 != 0) = false := bne_eq_false_iff_eq.mpr c7
      clear c7
      obtain ⟨y836, hy836⟩ : ∃ y_ : List Int, y_ = (([] : List Int)) := ⟨_, rfl⟩
      replace H : (spec_StrengthsIn.l0 k t829 y836 0 a0_0 a0_1 a0_2 a0_3) = some (r1, r2) := by first | (rw [hy836]; with_reducible exact H) | (have H2_ := (Option.bind_some _ _).symm.trans H; rw [hy836]; with_reducible exact H2_) | (have H2_ := (Option.bind_some _ _).symm.trans H; with_reducible exact H2_) | with_reducible exact H | (rw [hy836]; exact H) | exact H
      have Ny836 := Aside0.mk hy836
      clear hy836
      have H' := Aside0.mk H
      clear H
      go_enter Try.func79, Try.ntmps79
      go_wp2_with (first | ((with_reducible refine gate_dst (N := 3) rfl ?_); refine box_event ?hg (N := 3) ?hd (cs := #[.int .i64 a0_0, .int .i64 a0_1, .int .i8 a0_2, .int .i8 a0_3]) (t := 71) ?hr ?_; (case hd => rfl); (case hg => rfl); (case hr => first | (go_simp; done) | (go_simp; rfl)); intro gb823 hg w8 hbox hb; have n0_ := Aside0.mk (below_step HB.out hb); have n1_ := Aside0.mk (hbox); have n2_ := Aside0.mk ((by rw [hg]; exact (below_size HB.out) : w.heap.size ≤ gb823)); have n3_ := Aside0.mk ((by rw [hg]; exact (below_size HB.out) : w.heap.size ≤ gb823)); clear HB; have HB := n0_; have BK823 := n1_; have GW823 := n2_; have GE823 := n3_; clear n0_ n1_ n2_ n3_; clear hb hbox hg) | ((with_reducible refine gate_dst (N := 4) rfl ?_); refine box_event ?hg (N := 4) ?hd (cs := #[.int .i64 a1_0, .int .i64 a1_1, .int .i64 a1_2]) (t := 73) ?hr ?_; (case hd => rfl); (case hg => rfl); (case hr => first | (go_simp; done) | (go_simp; rfl)); intro gb824 hg w9 hbox hb; have n0_ := Aside0.mk (blk_below BK823.out hb); have n1_ := Aside0.mk (below_step HB.out hb); have n2_ := Aside0.mk (hbox); have n3_ := Aside0.mk ((by rw [hg]; exact (below_size HB.out) : w.heap.size ≤ gb824)); have n4_ := Aside0.mk ((by rw [hg]; exact (below_size HB.out) : w.heap.size ≤ gb824)); have n5_ := Aside0.mk ((by rw [hg]; exact Nat.ne_of_lt (blk_lt BK823.out) : gb823 ≠ gb824)); have n6_ := Aside0.mk ((by rw [hg]; exact Nat.ne_of_gt (blk_lt BK823.out) : gb824 ≠ gb823)); clear BK823; clear HB; have BK823 := n0_; have HB := n1_; have BK824 := n2_; have GW824 := n3_; have GE824 := n4_; have NB823_824 := n5_; have NB824_823 := n6_; clear n0_ n1_ n2_ n3_ n4_ n5_ n6_; clear hb hbox hg; have hnb10 := NB823_824.out; have hnc10 := NB824_823.out; have hcz11_0 : w9.cell? ⟨gb823, 0, none⟩ = some (.int .i64 a0_0) := (blk_cell BK823.out 0).trans rfl; have hcz11_1 : w9.cell? ⟨gb823, 1, none⟩ = some (.int .i64 a0_1) := (blk_cell BK823.out 1).trans rfl; have hcz11_2 : w9.cell? ⟨gb823, 2, none⟩ = some (.int .i8 a0_2) := (blk_cell BK823.out 2).trans rfl; have hcz11_3 : w9.cell? ⟨gb823, 3, none⟩ = some (.int .i8 a0_3) := (blk_cell BK823.out 3).trans rfl; have hfz11_0 := blk_frozen BK823.out 0; have hfz11_1 := blk_frozen BK823.out 1; have hfz11_2 := blk_frozen BK823.out 2; have hfz11_3 := blk_frozen BK823.out 3; have hcz12_0 : w9.cell? ⟨gb824, 0, none⟩ = some (.int .i64 a1_0) := (blk_cell BK824.out 0).trans rfl; have hcz12_1 : w9.cell? ⟨gb824, 1, none⟩ = some (.int .i64 a1_1) := (blk_cell BK824.out 1).trans rfl; have hcz12_2 : w9.cell? ⟨gb824, 2, none⟩ = some (.int .i64 a1_2) := (blk_cell BK824.out 2).trans rfl; have hfz12_0 := blk_frozen BK824.out 0; have hfz12_1 := blk_frozen BK824.out 1; have hfz12_2 := blk_frozen BK824.out 2) | ((with_reducible refine gate_callee (f := 142) rfl ?_); refine goesL_ (some 16) rfl rfl Try.func142 (by kernel_rfl) rfl #[.agg #[.int .i64 a0_0, .int .i64 a0_1, .int .i8 a0_2, .int .i8 a0_3], .agg #[.int .i64 a1_0, .int .i64 a1_1, .int .i64 a1_2], .slice A2 l2.length c2] rfl (by (try simp only [List.map_toArray, List.map_cons, List.map_nil]); first | done | rfl | (simp only [List.length_drop, List.length_take]; rfl)) ?_; (with_reducible refine (spec_l04Listed.calls k a0_0 a0_1 a0_2 a0_3 a1_0 a1_1 a1_2 _ _ l2 t825 _ ?side1 ?side2 A4.out).mono ?_); (case side1 => repeat (first | exact (Kd.C_below HR2.out HB.out) | (with_reducible refine Kd.C_alloc ?_ _) | (with_reducible refine Kd.C_drewN ?_ _) | (with_reducible refine Kd.C_drew ?_))); (case side2 => exact HC2.out); rintro e w13 ⟨rfl, hb⟩; refine ⟨_, rfl, ?_⟩; have n0_ := Aside0.mk (blk_below BK823.out hb); have n1_ := Aside0.mk (blk_below BK824.out hb); have n2_ := Aside0.mk (below_step HB.out hb); clear BK823; clear BK824; clear HB; have BK823 := n0_; have BK824 := n1_; have HB := n2_; clear n0_ n1_ n2_; (try clear hb); (try clear hb2); (try clear hk); (try clear hi); have hcz14_0 : w13.cell? ⟨gb823, 0, none⟩ = some (.int .i64 a0_0) := (blk_cell BK823.out 0).trans rfl; have hcz14_1 : w13.cell? ⟨gb823, 1, none⟩ = some (.int .i64 a0_1) := (blk_cell BK823.out 1).trans rfl; have hcz14_2 : w13.cell? ⟨gb823, 2, none⟩ = some (.int .i8 a0_2) := (blk_cell BK823.out 2).trans rfl; have hcz14_3 : w13.cell? ⟨gb823, 3, none⟩ = some (.int .i8 a0_3) := (blk_cell BK823.out 3).trans rfl; have hfz14_0 := blk_frozen BK823.out 0; have hfz14_1 := blk_frozen BK823.out 1; have hfz14_2 := blk_frozen BK823.out 2; have hfz14_3 := blk_frozen BK823.out 3; have hcz15_0 : w13.cell? ⟨gb824, 0, none⟩ = some (.int .i64 a1_0) := (blk_cell BK824.out 0).trans rfl; have hcz15_1 : w13.cell? ⟨gb824, 1, none⟩ = some (.int .i64 a1_1) := (blk_cell BK824.out 1).trans rfl; have hcz15_2 : w13.cell? ⟨gb824, 2, none⟩ = some (.int .i64 a1_2) := (blk_cell BK824.out 2).trans rfl; have hfz15_0 := blk_frozen BK824.out 0; have hfz15_1 := blk_frozen BK824.out 1; have hfz15_2 := blk_frozen BK824.out 2) | ((with_reducible refine gate_callee (f := 143) rfl ?_); refine goesL_ (some 25) rfl rfl Try.func143 (by kernel_rfl) rfl #[.agg #[.int .i64 a0_0, .int .i64 a0_1, .int .i8 a0_2, .int .i8 a0_3], .agg #[.int .i64 a1_0, .int .i64 a1_1, .int .i64 a1_2], .slice A2 l2.length c2] rfl (by (try simp only [List.map_toArray, List.map_cons, List.map_nil]); first | done | rfl | (simp only [List.length_drop, List.length_take]; rfl)) ?_; (with_reducible refine (spec_l04Do.calls k a0_0 a0_1 a0_2 a0_3 a1_0 a1_1 a1_2 _ _ l2 t829 t832 _ ?side1 ?side2 A6.out).mono ?_); (case side1 => repeat (first | exact (Kd.C_below HR2.out HB.out) | (with_reducible refine Kd.C_alloc ?_ _) | (with_reducible refine Kd.C_drewN ?_ _) | (with_reducible refine Kd.C_drew ?_))); (case side2 => exact HC2.out); rintro e w16 ⟨v830, rfl, ho0, hb⟩; refine ⟨_, rfl, ?_⟩; have n0_ := Aside0.mk (Kd.R_lower (Kd.R_newB ho0 BK824.out) (below_size HB.out)); have n1_ := Aside0.mk (blk_below BK823.out hb); have n2_ := Aside0.mk (blk_below BK824.out hb); have n3_ := Aside0.mk (below_step HB.out hb); clear BK823; clear BK824; clear HB; have HO831 := n0_; have BK823 := n1_; have BK824 := n2_; have HB := n3_; clear n0_ n1_ n2_ n3_; (try clear hb); (try clear hb2); (try clear hk); (try clear hi); (try clear ho0)) | ((with_reducible refine gate_dst (N := 32) rfl ?_); refine Kd.R_lit (Kd.int .i64) _ 2 ?hg (N := 32) ?hd (xs := ([] : List Int)) (inner := []) (ok := fun _ => True) (okp := fun _ => True) ?hr ?hp (fun _ hk => hk) trivial (Below.refl _ _) (Nat.le_refl _) (by simp) ?_; (case hd => rfl); (case hg => rfl); (case hr => first | (go_simp; done) | (go_simp; rfl)); (case hp => exact (Reps.none _ _)); intro v837 w17 ho18 hb hg_ hnew_; clear hg_ hnew_; (first | rw [← Ny836.out] at ho18 | (simp only [Int.reduceToNat] at ho18; rw [← Ny836.out] at ho18)); have n0_ := Aside0.mk (Kd.R_below HO831.out hb); have n1_ := Aside0.mk (Kd.R_lower ho18 (below_size HB.out)); have n2_ := Aside0.mk (blk_below BK823.out hb); have n3_ := Aside0.mk (blk_below BK824.out hb); have n4_ := Aside0.mk (below_step HB.out hb); clear HO831; clear BK823; clear BK824; clear HB; have HO831 := n0_; have HO838 := n1_; have BK823 := n2_; have BK824 := n3_; have HB := n4_; clear n0_ n1_ n2_ n3_ n4_; clear hb ho18))
      go_loopg [11, 12] k (fun kq v11 v12 w' => ∃ (x11_1 : List Int) (x12_1 : Int), v12 = .int .i64 x12_1 ∧ Aside0 (spec_StrengthsIn.l0 kq t829 x11_1 x12_1 a0_0 a0_1 a0_2 a0_3 = some (r1, r2)) ∧ Aside0 (kq ≤ k) ∧ Aside0 (Kd.R k73 73 w' w.heap.size (fun k_ => k_ ≠ gb824) v830 t829) ∧ Aside0 (Kd.R (Kd.int .i64) 2 w' w.heap.size (fun _ => True) v11 x11_1) ∧ Aside0 (w'.heap[gb823]? = some (.cells #[.int .i64 a0_0, .int .i64 a0_1, .int .i8 a0_2, .int .i8 a0_3] 71 (0, 0))) ∧ Aside0 (w'.heap[gb824]? = some (.cells #[.int .i64 a1_0, .int .i64 a1_1, .int .i64 a1_2] 73 (0, 0))) ∧ Aside0 (Below w.heap.size w w'))
      case atStart => exact ⟨(y836), (0), (by first | rfl | (simp; done) | (simp [*]; done)), H', ⟨Nat.le_refl _⟩, ⟨by (with_reducible repeat (first | apply Kd.R_alloc | apply Kd.R_drewN | apply Kd.R_drew)); exact Kd.R_mono HO831.out (fun _ hk => hk.2)⟩, ⟨by (with_reducible repeat (first | apply Kd.R_alloc | apply Kd.R_drewN | apply Kd.R_drew)); exact HO838.out⟩, ⟨by (with_reducible repeat (first | refine blk_drewN ?_ _ | refine blk_drew ?_ | refine blk_alloc ?_ _)); exact BK823.out⟩, ⟨by (with_reducible repeat (first | refine blk_drewN ?_ _ | refine blk_drew ?_ | refine blk_alloc ?_ _)); exact BK824.out⟩, ⟨by repeat (first | (with_reducible first | exact HB.out | apply below_alloc | apply pw_below_drewN | apply below_drew1 | refine below_set ?_ GE823.out | refine below_set ?_ GE824.out) | exact HB.out)⟩⟩
      case round =>
        clear H'
        try clear c1
        try clear c2
        try clear p2
        try clear c5
        try clear c5b0
        try clear c5b1
        try clear c7
        try clear c7b0
        try clear c7b1
        try clear c10
        try clear c14
        try clear hcz11_0
        try clear hcz11_1
        try clear hcz11_2
        try clear hcz11_3
        try clear hcz12_0
        try clear hcz12_1
        try clear hcz12_2
        try clear hcz14_0
        try clear hcz14_1
        try clear hcz14_2
        try clear hcz14_3
        try clear hcz15_0
        try clear hcz15_1
        try clear hcz15_2
        try clear hfz11_0
        try clear hfz11_1
        try clear hfz11_2
        try clear hfz11_3
        try clear hfz12_0
        try clear hfz12_1
        try clear hfz12_2
        try clear hfz14_0
        try clear hfz14_1
        try clear hfz14_2
        try clear hfz14_3
        try clear hfz15_0
        try clear hfz15_1
        try clear hfz15_2
        obtain ⟨x11_1, x12_1, rfl, HA, HK1, HO_9, HO_11, BK823, BK824, HB⟩ := hrel
        cases gk with
        | zero => exact absurd HA.out (by simp [spec_StrengthsIn.l0])
        | succ k1 =>
          have H := HA.out
          clear HA
          simp only [spec_StrengthsIn.l0] at H
          by_cases c19 : x12_1 < (t829.length : Int)
          · rw [if_pos c19] at H
            have c19b0 : decide (x12_1 < (t829.length : Int)) = true := decide_eq_true c19
            clear c19
            by_cases c20 : 0 ≤ x12_1
            · rw [if_pos c20] at H
              have c20b0 : decide (0 ≤ x12_1) = true := decide_eq_true c20
              clear c20
              replace H := Option.bind_eq_some_iff.mp H
              obtain ⟨t840, A210, H⟩ := H
              replace H : (if x11_1.length < 17592186044416 then (spec_StrengthsIn.l0 k1 t829 (x11_1 ++ [t840]) (wrap64 (x12_1 + 1)) a0_0 a0_1 a0_2 a0_3) else (none)) = some (r1, r2) := H
              have A21 := Aside0.mk A210
              clear A210
              by_cases c22 : x11_1.length < 17592186044416
              · rw [if_pos c22] at H
                have LMc22 := Aside0.mk c22
                clear c22
                obtain ⟨y841, hy841⟩ : ∃ y_ : List Int, y_ = (x11_1 ++ [t840]) := ⟨_, rfl⟩
                replace H : (spec_StrengthsIn.l0 k1 t829 y841 (wrap64 (x12_1 + 1)) a0_0 a0_1 a0_2 a0_3) = some (r1, r2) := by first | (rw [hy841]; with_reducible exact H) | (have H2_ := (Option.bind_some _ _).symm.trans H; rw [hy841]; with_reducible exact H2_) | (have H2_ := (Option.bind_some _ _).symm.trans H; with_reducible exact H2_) | with_reducible exact H | (rw [hy841]; exact H) | exact H
                have Ny841 := Aside0.mk hy841
                clear hy841
                have H' := Aside0.mk H
                clear H
                obtain ⟨Ao23, co23, eo23⟩ := Kd.R_slice HO_9.out
                subst eo23
                try go_wp2
                have n0_ := Aside0.mk (Kd.R_drew HO_9.out)
                have n1_ := Aside0.mk (Kd.R_drew HO_11.out)
                have n2_ := Aside0.mk (blk_drew BK823.out)
                have n3_ := Aside0.mk (blk_drew BK824.out)
                have n4_ := Aside0.mk (below_drew1 HB.out)
                clear HO_9
                clear HO_11
                clear BK823
                clear BK824
                clear HB
                have HO_9 := n0_
                have HO_11 := n1_
                have BK823 := n2_
                have BK824 := n3_
                have HB := n4_
                clear n0_ n1_ n2_ n3_ n4_
                have p839 : 0 ≤ (x12_1 : Int) := of_decide_eq_true (by first | (with_reducible assumption) | assumption)
                have q839 : x12_1 < (t829.length : Int) := of_decide_eq_true (by first | (with_reducible assumption) | assumption)
                obtain ⟨ad839, e839, hx839_0, hx839_1, hx839_2⟩ := at_T73 (Kd.R_reads' HO_9.out).2.2 x12_1 p839 q839
                cases e839
                replace p839 := eq_true p839
                replace q839 := eq_true q839
                refine start_ (n := 10) (S := fun w' => w'.cell? ⟨gb823, 0, none⟩ = some (.int .i64 a0_0) ∧ w'.cell? ⟨gb823, 1, none⟩ = some (.int .i64 a0_1) ∧ w'.cell? ⟨gb823, 2, none⟩ = some (.int .i8 a0_2) ∧ w'.cell? ⟨gb823, 3, none⟩ = some (.int .i8 a0_3) ∧ w'.cell? (ad839.add ((x12_1).toNat * 3)) = some (.int .i64 ((rd_T73 t829 x12_1).f0)) ∧ w'.cell? ⟨(ad839.add ((x12_1).toNat * 3)).block, (ad839.add ((x12_1).toNat * 3)).off + 1, none⟩ = some (.int .i64 ((rd_T73 t829 x12_1).f1)) ∧ w'.cell? ⟨(ad839.add ((x12_1).toNat * 3)).block, (ad839.add ((x12_1).toNat * 3)).off + 2, none⟩ = some (.int .i64 ((rd_T73 t829 x12_1).f2))) (ds := [7, 8]) #[false, false, false, false, false, false, false, false, false, false] (by kernel_rfl) rfl rfl ⟨(blk_cell BK823.out 0).trans rfl, (blk_cell BK823.out 1).trans rfl, (blk_cell BK823.out 2).trans rfl, (blk_cell BK823.out 3).trans rfl, hx839_0, hx839_1, hx839_2⟩ (fun hHeld => ?_); refine with_tabW spec_StrengthsIn.tab11 spec_StrengthsIn.bits11 (fun HT_ HW_ => ?_)
                generalize wr.drew = w24 at HO_9 HO_11 BK823 BK824 HB hx839_0 hx839_1 hx839_2 hHeld ⊢
                refine pure_ (i := 0) (N := some 39) (v := ?_) (a' := ?_) #[true, false, false, false, false, false, false, false, false, false] rfl rfl (any_of HT_.out (by kernel_rfl)) (fun _ _ _ h => h) (Or.inl ⟨by rfl, ?_⟩) ?_ ?_
                rotate_left
                · intro w'
                  go_simp
                  with_reducible rfl
                rotate_left
                · simp only [Act.put, List.setIfInBounds_toArray, List.set_cons_zero, List.set_cons_succ, i64_w, i32_w]
                  rfl
                refine pure_ (i := 2) (N := some 41) (v := ?_) (a' := ?_) #[true, false, true, false, false, false, false, false, false, false] rfl rfl (any_of HT_.out (by kernel_rfl)) (fun _ _ _ h => h) (Or.inl ⟨by rfl, ?_⟩) ?_ ?_
                rotate_left
                · intro w'
                  go_simp
                  with_reducible rfl
                rotate_left
                · simp only [Act.put, List.setIfInBounds_toArray, List.set_cons_zero, List.set_cons_succ, i64_w, i32_w]
                  rfl
                refine pure_ (i := 3) (N := some 42) (v := ?_) (a' := ?_) #[true, false, true, true, false, false, false, false, false, false] rfl rfl (any_of HT_.out (by kernel_rfl)) (fun _ _ _ h => h) (Or.inl ⟨by rfl, ?_⟩) ?_ ?_
                rotate_left
                · intro w'
                  go_simp
                  with_reducible rfl
                rotate_left
                · simp only [Act.put, List.setIfInBounds_toArray, List.set_cons_zero, List.set_cons_succ, i64_w, i32_w]
                  rfl
                refine pure_ (i := 4) (N := some 43) (v := ?_) (a' := ?_) #[true, false, true, true, true, false, false, false, false, false] rfl rfl (any_of HT_.out (by kernel_rfl)) (fun _ _ _ h => h) (Or.inl ⟨by rfl, ?_⟩) ?_ ?_
                rotate_left
                · intro w'
                  go_simp
                  with_reducible rfl
                rotate_left
                · simp only [Act.put, List.setIfInBounds_toArray, List.set_cons_zero, List.set_cons_succ, i64_w, i32_w]
                  rfl
                refine take_ (i := 1) (N := some 40) (v := ?_) (a' := ?_) #[true, true, true, true, true, false, false, false, false, false] rfl rfl (take_ofW HT_.out HW_.out (by kernel_rfl)) (fun _ _ _ h => h) (Or.inl ⟨by rfl, ?_⟩) hHeld ?_ ?_
                rotate_left
                · rintro w' ⟨s0, s1, s2, s3, s4, s5, s6⟩
                  go_simp
                  with_reducible rfl
                rotate_left
                · simp only [Act.put, List.setIfInBounds_toArray, List.set_cons_zero, List.set_cons_succ, i64_w, i32_w]
                  rfl
                refine take_ (i := 5) (N := some 44) (v := ?_) (a' := ?_) #[true, true, true, true, true, true, false, false, false, false] rfl rfl (take_ofW HT_.out HW_.out (by kernel_rfl)) (fun _ _ _ h => h) (Or.inl ⟨by rfl, ?_⟩) hHeld ?_ ?_
                rotate_left
                · rintro w' ⟨s0, s1, s2, s3, s4, s5, s6⟩
                  go_simp
                  with_reducible rfl
                rotate_left
                · simp only [Act.put, List.setIfInBounds_toArray, List.set_cons_zero, List.set_cons_succ, i64_w, i32_w]
                  rfl
                refine one_ (i := 6) (N := some 45) #[true, true, true, true, true, true, true, false, false, false] rfl rfl (one_of HT_.out (by kernel_rfl)) (by decide) (fun K hK => ?_)
                refine goes_ Try.func125 (by kernel_rfl) rfl #[.agg #[.int .i64 a0_0, .int .i64 a0_1, .int .i8 a0_2, .int .i8 a0_3], .agg #[.int .i64 ((rd_T73 t829 x12_1).f0), .int .i64 ((rd_T73 t829 x12_1).f1), .int .i64 ((rd_T73 t829 x12_1).f2)]] (by rfl) rfl rfl (by (try simp only [List.map_toArray, List.map_cons, List.map_nil]); first | done | rfl | (simp only [List.length_drop, List.length_take]; rfl)) ?_
                with_reducible refine (spec_l04Strength.calls a0_0 a0_1 a0_2 a0_3 ((rd_T73 t829 x12_1).f0) ((rd_T73 t829 x12_1).f1) ((rd_T73 t829 x12_1).f2) t840 _ A21.out).mono ?_
                rintro e w25 ⟨rfl, hb⟩
                have HS4_ := (hb.cell (World.block_lt_of_cell? _ _ (hHeld.2.2.2.2.1))).trans (hHeld.2.2.2.2.1)
                have HS5_ := (hb.cell (World.block_lt_of_cell? _ _ (hHeld.2.2.2.2.2.1))).trans (hHeld.2.2.2.2.2.1)
                have HS6_ := (hb.cell (World.block_lt_of_cell? _ _ (hHeld.2.2.2.2.2.2))).trans (hHeld.2.2.2.2.2.2)
                refine ⟨_, rfl, ?_⟩
                have n0_ := Aside0.mk (Kd.R_below HO_9.out hb)
                have n1_ := Aside0.mk (Kd.R_below HO_11.out hb)
                have n2_ := Aside0.mk (blk_below BK823.out hb)
                have n3_ := Aside0.mk (blk_below BK824.out hb)
                have n4_ := Aside0.mk (below_step HB.out hb)
                clear HO_9
                clear HO_11
                clear BK823
                clear BK824
                clear HB
                have HO_9 := n0_
                have HO_11 := n1_
                have BK823 := n2_
                have BK824 := n3_
                have HB := n4_
                clear n0_ n1_ n2_ n3_ n4_
                (try clear hb)
                (try clear hb2)
                (try clear hk)
                (try clear hi)
                refine hK.out _ _ ⟨(blk_cell BK823.out 0).trans rfl, (blk_cell BK823.out 1).trans rfl, (blk_cell BK823.out 2).trans rfl, (blk_cell BK823.out 3).trans rfl, HS4_, HS5_, HS6_⟩ (fun hHeld => ?_)
                clear hK K
                refine norm_ (a' := ?_) ?_ ?_
                rotate_left
                · show Act.put _ (some 45) _ = _
                  simp only [Act.put, List.setIfInBounds_toArray, List.set_cons_zero, List.set_cons_succ, i64_w, i32_w]
                  rfl
                refine last_ (i := 7) (N := some 46) #[true, true, true, true, true, true, true, true, false, false] rfl rfl (one_of HT_.out (by kernel_rfl)) (by decide) (fun K hK => ?_)
                refine value_ (w1 := ?_) (v := ?_) (by rfl) rfl ?_ ?_
                rotate_left 2
                · go_simp
                  constructor
                  · rfl
                  · rfl
                refine hK.out _ _ ?_
                clear hK K
                refine norm_ (a' := ?_) ?_ ?_
                rotate_left
                · show Act.put _ (some 46) _ = _
                  simp only [Act.put, List.setIfInBounds_toArray, List.set_cons_zero, List.set_cons_succ, i64_w, i32_w]
                  rfl
                refine last_ (i := 8) (N := some 47) #[true, true, true, true, true, true, true, true, true, false] rfl rfl (one_of HT_.out (by kernel_rfl)) (by decide) (fun K hK => ?_)
                refine Kd.R_append_step (Kd.int .i64) (w0 := w) w.heap.size (by rfl) (.tmp 39) (.tmp 46) 49 2 (.int .i64 0) 8 rfl Try.underlying49 info2 rfl (by decide) (by omega) u11 x11_1 t840 [.int .i64 t840] (fun _ => True) (fun _ => False) rfl rfl ?aP (fun _ hk => hk.elim) ?aF ?aO ?aB ?aS ?aL ?_
                (case aP => exact rfl)
                (case aB => exact HB.out)
                (case aF => exact (fun _ _ => trivial))
                (case aO => exact HO_11.out)
                (case aS => exact (below_size HB.out))
                (case aL => have := LMc22.out; omega)
                intro v842 w26 ho hb hg hat
                rw [← Ny841.out] at ho
                have n0_ := Aside0.mk (Kd.R_over' HO_9.out (Kd.R_typed HO_11.out) (by decide) hg)
                have n1_ := Aside0.mk (blk_grown BK823.out hg (Kd.R_ne HO_11.out BK823.out (by decide)))
                have n2_ := Aside0.mk (blk_grown BK824.out hg (Kd.R_ne HO_11.out BK824.out (by decide)))
                have n3_ := Aside0.mk (hb)
                have n4_ := Aside0.mk (ho)
                clear HO_9
                clear BK823
                clear BK824
                clear HB
                clear HO_11
                have HO_9 := n0_
                have BK823 := n1_
                have BK824 := n2_
                have HB := n3_
                have HO843 := n4_
                clear n0_ n1_ n2_ n3_ n4_
                clear ho hb hg hat
                refine hK.out _ _ ?_
                clear hK K
                refine norm_ (a' := ?_) ?_ ?_
                rotate_left
                · show Act.put _ (some 47) _ = _
                  simp only [Act.put, List.setIfInBounds_toArray, List.set_cons_zero, List.set_cons_succ, i64_w, i32_w]
                  rfl
                refine pure_ (i := 9) (N := some 11) (v := ?_) (a' := ?_) #[true, true, true, true, true, true, true, true, true, true] rfl rfl (any_of HT_.out (by kernel_rfl)) (fun _ _ _ h => h) (Or.inl ⟨by rfl, ?_⟩) ?_ ?_
                rotate_left
                · intro w'
                  go_simp
                  with_reducible rfl
                rotate_left
                · simp only [Act.put, List.setIfInBounds_toArray, List.set_cons_zero, List.set_cons_succ, i64_w, i32_w]
                  rfl
                refine done_ (done_of HT_.out (by kernel_rfl)) ?_
                try go_wp2
                go_roundg k1
                case measure => have := HK1.out; omega
                case rel => exact ⟨(y841), (wrap64 (x12_1 + 1)), (by first | rfl | (simp; done) | (simp [*]; done)), H', ⟨by have := HK1.out; omega⟩, ⟨by (with_reducible repeat (first | apply Kd.R_alloc | apply Kd.R_drewN | apply Kd.R_drew)); exact HO_9.out⟩, ⟨by (with_reducible repeat (first | apply Kd.R_alloc | apply Kd.R_drewN | apply Kd.R_drew)); exact HO843.out⟩, ⟨by (with_reducible repeat (first | refine blk_drewN ?_ _ | refine blk_drew ?_ | refine blk_alloc ?_ _)); exact BK823.out⟩, ⟨by (with_reducible repeat (first | refine blk_drewN ?_ _ | refine blk_drew ?_ | refine blk_alloc ?_ _)); exact BK824.out⟩, ⟨by repeat (first | (with_reducible first | exact HB.out | apply below_alloc | apply pw_below_drewN | apply below_drew1 | refine below_set ?_ GE823.out | refine below_set ?_ GE824.out) | exact HB.out)⟩⟩
              · rw [if_neg c22] at H
                exact absurd H (by simp)
            · rw [if_neg c20] at H
              exact absurd H (by simp)
          · rw [if_neg c19] at H
            have c19b0 : decide (x12_1 < (t829.length : Int)) = false := decide_eq_false c19
            clear c19
            simp only [Option.some.injEq, Prod.mk.injEq] at H
            obtain ⟨rfl, rfl⟩ := H
            obtain ⟨Ao27, co27, eo27⟩ := Kd.R_slice HO_9.out
            subst eo27
            go_wp2
            go_ret2
            exact ⟨_, by first | rfl | (simp [errW_none, errW_some] <;> rfl) | (simp [*, errW_none, errW_some] <;> rfl), by (with_reducible repeat (first | apply Kd.R_alloc | apply Kd.R_drewN | apply Kd.R_drew)); exact HO_11.out, by repeat (first | (with_reducible first | exact HB.out | apply below_alloc | apply pw_below_drewN | apply below_drew1 | refine below_set ?_ GE823.out | refine below_set ?_ GE824.out) | exact HB.out)⟩
    · rw [if_neg c7] at H
      have c7b0 : (t832 == 0) = false := beq_eq_false_iff_ne.mpr c7
      have c7b1 : (t832 != 0) = true := bne_iff_ne.mpr c7
      obtain ⟨y833, hy833⟩ : ∃ y_ : List Int, y_ = (([] : List Int)) := ⟨_, rfl⟩
      replace H : (some (y833, t832)) = some (r1, r2) := by first | (rw [hy833]; with_reducible exact H) | (have H2_ := (Option.bind_some _ _).symm.trans H; rw [hy833]; with_reducible exact H2_) | (have H2_ := (Option.bind_some _ _).symm.trans H; with_reducible exact H2_) | with_reducible exact H | (rw [hy833]; exact H) | exact H
      have Ny833 := Aside0.mk hy833
      clear hy833
      simp only [Option.some.injEq, Prod.mk.injEq] at H
      obtain ⟨rfl, rfl⟩ := H
      go_enter Try.func79, Try.ntmps79
      go_wp2_with (first | ((with_reducible refine gate_dst (N := 3) rfl ?_); refine box_event ?hg (N := 3) ?hd (cs := #[.int .i64 a0_0, .int .i64 a0_1, .int .i8 a0_2, .int .i8 a0_3]) (t := 71) ?hr ?_; (case hd => rfl); (case hg => rfl); (case hr => first | (go_simp; done) | (go_simp; rfl)); intro gb823 hg w28 hbox hb; have n0_ := Aside0.mk (below_step HB.out hb); have n1_ := Aside0.mk (hbox); have n2_ := Aside0.mk ((by rw [hg]; exact (below_size HB.out) : w.heap.size ≤ gb823)); have n3_ := Aside0.mk ((by rw [hg]; exact (below_size HB.out) : w.heap.size ≤ gb823)); clear HB; have HB := n0_; have BK823 := n1_; have GW823 := n2_; have GE823 := n3_; clear n0_ n1_ n2_ n3_; clear hb hbox hg) | ((with_reducible refine gate_dst (N := 4) rfl ?_); refine box_event ?hg (N := 4) ?hd (cs := #[.int .i64 a1_0, .int .i64 a1_1, .int .i64 a1_2]) (t := 73) ?hr ?_; (case hd => rfl); (case hg => rfl); (case hr => first | (go_simp; done) | (go_simp; rfl)); intro gb824 hg w29 hbox hb; have n0_ := Aside0.mk (blk_below BK823.out hb); have n1_ := Aside0.mk (below_step HB.out hb); have n2_ := Aside0.mk (hbox); have n3_ := Aside0.mk ((by rw [hg]; exact (below_size HB.out) : w.heap.size ≤ gb824)); have n4_ := Aside0.mk ((by rw [hg]; exact (below_size HB.out) : w.heap.size ≤ gb824)); have n5_ := Aside0.mk ((by rw [hg]; exact Nat.ne_of_lt (blk_lt BK823.out) : gb823 ≠ gb824)); have n6_ := Aside0.mk ((by rw [hg]; exact Nat.ne_of_gt (blk_lt BK823.out) : gb824 ≠ gb823)); clear BK823; clear HB; have BK823 := n0_; have HB := n1_; have BK824 := n2_; have GW824 := n3_; have GE824 := n4_; have NB823_824 := n5_; have NB824_823 := n6_; clear n0_ n1_ n2_ n3_ n4_ n5_ n6_; clear hb hbox hg; have hnb30 := NB823_824.out; have hnc30 := NB824_823.out; have hcz31_0 : w29.cell? ⟨gb823, 0, none⟩ = some (.int .i64 a0_0) := (blk_cell BK823.out 0).trans rfl; have hcz31_1 : w29.cell? ⟨gb823, 1, none⟩ = some (.int .i64 a0_1) := (blk_cell BK823.out 1).trans rfl; have hcz31_2 : w29.cell? ⟨gb823, 2, none⟩ = some (.int .i8 a0_2) := (blk_cell BK823.out 2).trans rfl; have hcz31_3 : w29.cell? ⟨gb823, 3, none⟩ = some (.int .i8 a0_3) := (blk_cell BK823.out 3).trans rfl; have hfz31_0 := blk_frozen BK823.out 0; have hfz31_1 := blk_frozen BK823.out 1; have hfz31_2 := blk_frozen BK823.out 2; have hfz31_3 := blk_frozen BK823.out 3; have hcz32_0 : w29.cell? ⟨gb824, 0, none⟩ = some (.int .i64 a1_0) := (blk_cell BK824.out 0).trans rfl; have hcz32_1 : w29.cell? ⟨gb824, 1, none⟩ = some (.int .i64 a1_1) := (blk_cell BK824.out 1).trans rfl; have hcz32_2 : w29.cell? ⟨gb824, 2, none⟩ = some (.int .i64 a1_2) := (blk_cell BK824.out 2).trans rfl; have hfz32_0 := blk_frozen BK824.out 0; have hfz32_1 := blk_frozen BK824.out 1; have hfz32_2 := blk_frozen BK824.out 2) | ((with_reducible refine gate_callee (f := 142) rfl ?_); refine goesL_ (some 16) rfl rfl Try.func142 (by kernel_rfl) rfl #[.agg #[.int .i64 a0_0, .int .i64 a0_1, .int .i8 a0_2, .int .i8 a0_3], .agg #[.int .i64 a1_0, .int .i64 a1_1, .int .i64 a1_2], .slice A2 l2.length c2] rfl (by (try simp only [List.map_toArray, List.map_cons, List.map_nil]); first | done | rfl | (simp only [List.length_drop, List.length_take]; rfl)) ?_; (with_reducible refine (spec_l04Listed.calls k a0_0 a0_1 a0_2 a0_3 a1_0 a1_1 a1_2 _ _ l2 t825 _ ?side1 ?side2 A4.out).mono ?_); (case side1 => repeat (first | exact (Kd.C_below HR2.out HB.out) | (with_reducible refine Kd.C_alloc ?_ _) | (with_reducible refine Kd.C_drewN ?_ _) | (with_reducible refine Kd.C_drew ?_))); (case side2 => exact HC2.out); rintro e w33 ⟨rfl, hb⟩; refine ⟨_, rfl, ?_⟩; have n0_ := Aside0.mk (blk_below BK823.out hb); have n1_ := Aside0.mk (blk_below BK824.out hb); have n2_ := Aside0.mk (below_step HB.out hb); clear BK823; clear BK824; clear HB; have BK823 := n0_; have BK824 := n1_; have HB := n2_; clear n0_ n1_ n2_; (try clear hb); (try clear hb2); (try clear hk); (try clear hi); have hcz34_0 : w33.cell? ⟨gb823, 0, none⟩ = some (.int .i64 a0_0) := (blk_cell BK823.out 0).trans rfl; have hcz34_1 : w33.cell? ⟨gb823, 1, none⟩ = some (.int .i64 a0_1) := (blk_cell BK823.out 1).trans rfl; have hcz34_2 : w33.cell? ⟨gb823, 2, none⟩ = some (.int .i8 a0_2) := (blk_cell BK823.out 2).trans rfl; have hcz34_3 : w33.cell? ⟨gb823, 3, none⟩ = some (.int .i8 a0_3) := (blk_cell BK823.out 3).trans rfl; have hfz34_0 := blk_frozen BK823.out 0; have hfz34_1 := blk_frozen BK823.out 1; have hfz34_2 := blk_frozen BK823.out 2; have hfz34_3 := blk_frozen BK823.out 3; have hcz35_0 : w33.cell? ⟨gb824, 0, none⟩ = some (.int .i64 a1_0) := (blk_cell BK824.out 0).trans rfl; have hcz35_1 : w33.cell? ⟨gb824, 1, none⟩ = some (.int .i64 a1_1) := (blk_cell BK824.out 1).trans rfl; have hcz35_2 : w33.cell? ⟨gb824, 2, none⟩ = some (.int .i64 a1_2) := (blk_cell BK824.out 2).trans rfl; have hfz35_0 := blk_frozen BK824.out 0; have hfz35_1 := blk_frozen BK824.out 1; have hfz35_2 := blk_frozen BK824.out 2) | ((with_reducible refine gate_callee (f := 143) rfl ?_); refine goesL_ (some 25) rfl rfl Try.func143 (by kernel_rfl) rfl #[.agg #[.int .i64 a0_0, .int .i64 a0_1, .int .i8 a0_2, .int .i8 a0_3], .agg #[.int .i64 a1_0, .int .i64 a1_1, .int .i64 a1_2], .slice A2 l2.length c2] rfl (by (try simp only [List.map_toArray, List.map_cons, List.map_nil]); first | done | rfl | (simp only [List.length_drop, List.length_take]; rfl)) ?_; (with_reducible refine (spec_l04Do.calls k a0_0 a0_1 a0_2 a0_3 a1_0 a1_1 a1_2 _ _ l2 t829 t832 _ ?side1 ?side2 A6.out).mono ?_); (case side1 => repeat (first | exact (Kd.C_below HR2.out HB.out) | (with_reducible refine Kd.C_alloc ?_ _) | (with_reducible refine Kd.C_drewN ?_ _) | (with_reducible refine Kd.C_drew ?_))); (case side2 => exact HC2.out); rintro e w36 ⟨v830, rfl, ho0, hb⟩; refine ⟨_, rfl, ?_⟩; have n0_ := Aside0.mk (Kd.R_lower (Kd.R_newB ho0 BK824.out) (below_size HB.out)); have n1_ := Aside0.mk (blk_below BK823.out hb); have n2_ := Aside0.mk (blk_below BK824.out hb); have n3_ := Aside0.mk (below_step HB.out hb); clear BK823; clear BK824; clear HB; have HO831 := n0_; have BK823 := n1_; have BK824 := n2_; have HB := n3_; clear n0_ n1_ n2_ n3_; (try clear hb); (try clear hb2); (try clear hk); (try clear hi); (try clear ho0)) | ((with_reducible refine gate_dst (N := 30) rfl ?_); refine Kd.R_lit (Kd.int .i64) _ 2 ?hg (N := 30) ?hd (xs := ([] : List Int)) (inner := []) (ok := fun _ => True) (okp := fun _ => True) ?hr ?hp (fun _ hk => hk) trivial (Below.refl _ _) (Nat.le_refl _) (by simp) ?_; (case hd => rfl); (case hg => rfl); (case hr => first | (go_simp; done) | (go_simp; rfl)); (case hp => exact (Reps.none _ _)); intro v834 w37 ho38 hb hg_ hnew_; clear hg_ hnew_; (first | rw [← Ny833.out] at ho38 | (simp only [Int.reduceToNat] at ho38; rw [← Ny833.out] at ho38)); have n0_ := Aside0.mk (Kd.R_below HO831.out hb); have n1_ := Aside0.mk (Kd.R_lower ho38 (below_size HB.out)); have n2_ := Aside0.mk (blk_below BK823.out hb); have n3_ := Aside0.mk (blk_below BK824.out hb); have n4_ := Aside0.mk (below_step HB.out hb); clear HO831; clear BK823; clear BK824; clear HB; have HO831 := n0_; have HO835 := n1_; have BK823 := n2_; have BK824 := n3_; have HB := n4_; clear n0_ n1_ n2_ n3_ n4_; clear hb ho38))
      go_ret2
      exact ⟨_, by first | rfl | (simp [errW_none, errW_some] <;> rfl) | (simp [*, errW_none, errW_some] <;> rfl), by (with_reducible repeat (first | apply Kd.R_alloc | apply Kd.R_drewN | apply Kd.R_drew)); exact HO835.out, by repeat (first | (with_reducible first | exact HB.out | apply below_alloc | apply pw_below_drewN | apply below_drew1 | refine below_set ?_ GE823.out | refine below_set ?_ GE824.out) | exact HB.out)⟩
  · rw [if_neg c5] at H
    have c5b0 : (t825 == 0) = false := beq_eq_false_iff_ne.mpr c5
    have c5b1 : (t825 != 0) = true := bne_iff_ne.mpr c5
    obtain ⟨y826, hy826⟩ : ∃ y_ : List Int, y_ = (([] : List Int)) := ⟨_, rfl⟩
    replace H : (some (y826, t825)) = some (r1, r2) := by first | (rw [hy826]; with_reducible exact H) | (have H2_ := (Option.bind_some _ _).symm.trans H; rw [hy826]; with_reducible exact H2_) | (have H2_ := (Option.bind_some _ _).symm.trans H; with_reducible exact H2_) | with_reducible exact H | (rw [hy826]; exact H) | exact H
    have Ny826 := Aside0.mk hy826
    clear hy826
    simp only [Option.some.injEq, Prod.mk.injEq] at H
    obtain ⟨rfl, rfl⟩ := H
    go_enter Try.func79, Try.ntmps79
    go_wp2_with (first | ((with_reducible refine gate_dst (N := 3) rfl ?_); refine box_event ?hg (N := 3) ?hd (cs := #[.int .i64 a0_0, .int .i64 a0_1, .int .i8 a0_2, .int .i8 a0_3]) (t := 71) ?hr ?_; (case hd => rfl); (case hg => rfl); (case hr => first | (go_simp; done) | (go_simp; rfl)); intro gb823 hg w39 hbox hb; have n0_ := Aside0.mk (below_step HB.out hb); have n1_ := Aside0.mk (hbox); have n2_ := Aside0.mk ((by rw [hg]; exact (below_size HB.out) : w.heap.size ≤ gb823)); have n3_ := Aside0.mk ((by rw [hg]; exact (below_size HB.out) : w.heap.size ≤ gb823)); clear HB; have HB := n0_; have BK823 := n1_; have GW823 := n2_; have GE823 := n3_; clear n0_ n1_ n2_ n3_; clear hb hbox hg) | ((with_reducible refine gate_dst (N := 4) rfl ?_); refine box_event ?hg (N := 4) ?hd (cs := #[.int .i64 a1_0, .int .i64 a1_1, .int .i64 a1_2]) (t := 73) ?hr ?_; (case hd => rfl); (case hg => rfl); (case hr => first | (go_simp; done) | (go_simp; rfl)); intro gb824 hg w40 hbox hb; have n0_ := Aside0.mk (blk_below BK823.out hb); have n1_ := Aside0.mk (below_step HB.out hb); have n2_ := Aside0.mk (hbox); have n3_ := Aside0.mk ((by rw [hg]; exact (below_size HB.out) : w.heap.size ≤ gb824)); have n4_ := Aside0.mk ((by rw [hg]; exact (below_size HB.out) : w.heap.size ≤ gb824)); have n5_ := Aside0.mk ((by rw [hg]; exact Nat.ne_of_lt (blk_lt BK823.out) : gb823 ≠ gb824)); have n6_ := Aside0.mk ((by rw [hg]; exact Nat.ne_of_gt (blk_lt BK823.out) : gb824 ≠ gb823)); clear BK823; clear HB; have BK823 := n0_; have HB := n1_; have BK824 := n2_; have GW824 := n3_; have GE824 := n4_; have NB823_824 := n5_; have NB824_823 := n6_; clear n0_ n1_ n2_ n3_ n4_ n5_ n6_; clear hb hbox hg; have hnb41 := NB823_824.out; have hnc41 := NB824_823.out; have hcz42_0 : w40.cell? ⟨gb823, 0, none⟩ = some (.int .i64 a0_0) := (blk_cell BK823.out 0).trans rfl; have hcz42_1 : w40.cell? ⟨gb823, 1, none⟩ = some (.int .i64 a0_1) := (blk_cell BK823.out 1).trans rfl; have hcz42_2 : w40.cell? ⟨gb823, 2, none⟩ = some (.int .i8 a0_2) := (blk_cell BK823.out 2).trans rfl; have hcz42_3 : w40.cell? ⟨gb823, 3, none⟩ = some (.int .i8 a0_3) := (blk_cell BK823.out 3).trans rfl; have hfz42_0 := blk_frozen BK823.out 0; have hfz42_1 := blk_frozen BK823.out 1; have hfz42_2 := blk_frozen BK823.out 2; have hfz42_3 := blk_frozen BK823.out 3; have hcz43_0 : w40.cell? ⟨gb824, 0, none⟩ = some (.int .i64 a1_0) := (blk_cell BK824.out 0).trans rfl; have hcz43_1 : w40.cell? ⟨gb824, 1, none⟩ = some (.int .i64 a1_1) := (blk_cell BK824.out 1).trans rfl; have hcz43_2 : w40.cell? ⟨gb824, 2, none⟩ = some (.int .i64 a1_2) := (blk_cell BK824.out 2).trans rfl; have hfz43_0 := blk_frozen BK824.out 0; have hfz43_1 := blk_frozen BK824.out 1; have hfz43_2 := blk_frozen BK824.out 2) | ((with_reducible refine gate_callee (f := 142) rfl ?_); refine goesL_ (some 16) rfl rfl Try.func142 (by kernel_rfl) rfl #[.agg #[.int .i64 a0_0, .int .i64 a0_1, .int .i8 a0_2, .int .i8 a0_3], .agg #[.int .i64 a1_0, .int .i64 a1_1, .int .i64 a1_2], .slice A2 l2.length c2] rfl (by (try simp only [List.map_toArray, List.map_cons, List.map_nil]); first | done | rfl | (simp only [List.length_drop, List.length_take]; rfl)) ?_; (with_reducible refine (spec_l04Listed.calls k a0_0 a0_1 a0_2 a0_3 a1_0 a1_1 a1_2 _ _ l2 t825 _ ?side1 ?side2 A4.out).mono ?_); (case side1 => repeat (first | exact (Kd.C_below HR2.out HB.out) | (with_reducible refine Kd.C_alloc ?_ _) | (with_reducible refine Kd.C_drewN ?_ _) | (with_reducible refine Kd.C_drew ?_))); (case side2 => exact HC2.out); rintro e w44 ⟨rfl, hb⟩; refine ⟨_, rfl, ?_⟩; have n0_ := Aside0.mk (blk_below BK823.out hb); have n1_ := Aside0.mk (blk_below BK824.out hb); have n2_ := Aside0.mk (below_step HB.out hb); clear BK823; clear BK824; clear HB; have BK823 := n0_; have BK824 := n1_; have HB := n2_; clear n0_ n1_ n2_; (try clear hb); (try clear hb2); (try clear hk); (try clear hi)) | ((with_reducible refine gate_dst (N := 19) rfl ?_); refine Kd.R_lit (Kd.int .i64) _ 2 ?hg (N := 19) ?hd (xs := ([] : List Int)) (inner := []) (ok := fun _ => True) (okp := fun _ => True) ?hr ?hp (fun _ hk => hk) trivial (Below.refl _ _) (Nat.le_refl _) (by simp) ?_; (case hd => rfl); (case hg => rfl); (case hr => first | (go_simp; done) | (go_simp; rfl)); (case hp => exact (Reps.none _ _)); intro v827 w45 ho46 hb hg_ hnew_; clear hg_ hnew_; (first | rw [← Ny826.out] at ho46 | (simp only [Int.reduceToNat] at ho46; rw [← Ny826.out] at ho46)); have n0_ := Aside0.mk (Kd.R_lower ho46 (below_size HB.out)); have n1_ := Aside0.mk (blk_below BK823.out hb); have n2_ := Aside0.mk (blk_below BK824.out hb); have n3_ := Aside0.mk (below_step HB.out hb); clear BK823; clear BK824; clear HB; have HO828 := n0_; have BK823 := n1_; have BK824 := n2_; have HB := n3_; clear n0_ n1_ n2_ n3_; clear hb ho46))
    go_ret2
    exact ⟨_, by first | rfl | (simp [errW_none, errW_some] <;> rfl) | (simp [*, errW_none, errW_some] <;> rfl), by (with_reducible repeat (first | apply Kd.R_alloc | apply Kd.R_drewN | apply Kd.R_drew)); exact HO828.out, by repeat (first | (with_reducible first | exact HB.out | apply below_alloc | apply pw_below_drewN | apply below_drew1 | refine below_set ?_ GE823.out | refine below_set ?_ GE824.out) | exact HB.out)⟩

/-! ### impl_StrengthsIn: function 80 -/
def impl_StrengthsIn.f (k : Nat) (a0_0 : Int) (a0_1 : Int) (a0_2 : Int) (a0_3 : Int) (a1_0 : Int) (a1_1 : Int) (a1_2 : Int) (l2 : List (S161)) : Option (List Int × Int) := (impl_actsCode.f a0_0 a0_1 a0_2 a0_3 a1_0 a1_1 a1_2 l2).bind fun t846 => (if t846 = 0 then ((impl_doAll.f k a0_0 a0_1 a0_2 a0_3 a1_0 a1_1 a1_2 l2).bind fun bt847 => (if bt847.2.2.2.2.2 = 0 then (some (bt847.2.2.2.2.1, 0)) else (some (([] : List Int), bt847.2.2.2.2.2)))) else (some (([] : List Int), t846)))
theorem impl_StrengthsIn.mono : ∀ a0 a1 a2 a3 a4 a5 a6 a7 k, LeO (impl_StrengthsIn.f k a0 a1 a2 a3 a4 a5 a6 a7) (impl_StrengthsIn.f (k + 1) a0 a1 a2 a3 a4 a5 a6 a7) := by
  intro a0 a1 a2 a3 a4 a5 a6 a7 k
  unfold impl_StrengthsIn.f
  repeat' first
      | (with_reducible exact impl_doAll.mono _ _ _ _ _ _ _ _ _)
      | (with_reducible exact LeO.refl _)
      | (with_reducible exact LeO.none _)
      | (with_reducible refine LeO.ite ?_ ?_)
      | (with_reducible refine LeO.bind ?_ (fun _ => ?_))
      | exact impl_doAll.mono _ _ _ _ _ _ _ _ _
      | exact LeO.none _
      | refine LeO.ite ?_ ?_
      | refine LeO.bind ?_ (fun _ => ?_)
set_option maxHeartbeats 8000000 in
set_option maxRecDepth 100000 in
theorem impl_StrengthsIn.calls (k : Nat) (a0_0 : Int) (a0_1 : Int) (a0_2 : Int) (a0_3 : Int) (a1_0 : Int) (a1_1 : Int) (a1_2 : Int) (A2 : Option Addr) (c2 : Nat) (l2 : List (S161)) (r1 : List Int) (r2 : Int) (w : World) (hr2 : Kd.C k161 w A2 l2.length l2) (hc2 : l2.length ≤ c2) (h : impl_StrengthsIn.f k a0_0 a0_1 a0_2 a0_3 a1_0 a1_1 a1_2 l2 = some (r1, r2)) :
    Calls Try.prog 80 #[.agg #[.int .i64 a0_0, .int .i64 a0_1, .int .i8 a0_2, .int .i8 a0_3], .agg #[.int .i64 a1_0, .int .i64 a1_1, .int .i64 a1_2], .slice A2 l2.length c2] w fun e w' => ∃ v0_ : Value, e = .returned (.tuple #[v0_, .int .i64 r2]) ∧ Kd.R (Kd.int .i64) 2 w' w.heap.size (fun _ => True) v0_ r1 ∧ Below w.heap.size w w' := by
  have hu71 := Try.underlying71
  have hu73 := Try.underlying73
  have HR2 := Aside0.mk hr2
  have HC2 := Aside0.mk hc2
  clear hr2 hc2
  have HB := Aside0.mk (Below.refl w.heap.size w)
  have H : ((impl_actsCode.f a0_0 a0_1 a0_2 a0_3 a1_0 a1_1 a1_2 l2).bind fun t846 => (if t846 = 0 then ((impl_doAll.f k a0_0 a0_1 a0_2 a0_3 a1_0 a1_1 a1_2 l2).bind fun bt847 => (if bt847.2.2.2.2.2 = 0 then (some (bt847.2.2.2.2.1, 0)) else (some (([] : List Int), bt847.2.2.2.2.2)))) else (some (([] : List Int), t846)))) = some (r1, r2) := h
  clear h
  replace H := Option.bind_eq_some_iff.mp H
  obtain ⟨t846, A40, H⟩ := H
  replace H : (if t846 = 0 then ((impl_doAll.f k a0_0 a0_1 a0_2 a0_3 a1_0 a1_1 a1_2 l2).bind fun bt847 => (if bt847.2.2.2.2.2 = 0 then (some (bt847.2.2.2.2.1, 0)) else (some (([] : List Int), bt847.2.2.2.2.2)))) else (some (([] : List Int), t846))) = some (r1, r2) := H
  have A4 := Aside0.mk A40
  clear A40
  by_cases c5 : t846 = 0
  · rw [if_pos c5] at H
    have c5b0 : (t846 == 0) = true := beq_iff_eq.mpr c5
    have c5b1 : (t846 != 0) = false := bne_eq_false_iff_eq.mpr c5
    clear c5
    replace H := Option.bind_eq_some_iff.mp H
    obtain ⟨⟨t847, t848, t849, t850, t851, t854⟩, A60, H⟩ := H
    replace H : (if t854 = 0 then (some (t851, 0)) else (some (([] : List Int), t854))) = some (r1, r2) := H
    have A6 := Aside0.mk A60
    clear A60
    by_cases c7 : t854 = 0
    · rw [if_pos c7] at H
      have c7b0 : (t854 == 0) = true := beq_iff_eq.mpr c7
      have c7b1 : (t854 != 0) = false := bne_eq_false_iff_eq.mpr c7
      clear c7
      simp only [Option.some.injEq, Prod.mk.injEq] at H
      obtain ⟨rfl, rfl⟩ := H
      go_enter Try.func80, Try.ntmps80
      go_wp2_with (first | ((with_reducible refine gate_dst (N := 3) rfl ?_); refine box_event ?hg (N := 3) ?hd (cs := #[.int .i64 a0_0, .int .i64 a0_1, .int .i8 a0_2, .int .i8 a0_3]) (t := 71) ?hr ?_; (case hd => rfl); (case hg => rfl); (case hr => first | (go_simp; done) | (go_simp; rfl)); intro gb844 hg w8 hbox hb; have n0_ := Aside0.mk (below_step HB.out hb); have n1_ := Aside0.mk (hbox); have n2_ := Aside0.mk ((by rw [hg]; exact (below_size HB.out) : w.heap.size ≤ gb844)); have n3_ := Aside0.mk ((by rw [hg]; exact (below_size HB.out) : w.heap.size ≤ gb844)); clear HB; have HB := n0_; have BK844 := n1_; have GW844 := n2_; have GE844 := n3_; clear n0_ n1_ n2_ n3_; clear hb hbox hg) | ((with_reducible refine gate_dst (N := 4) rfl ?_); refine box_event ?hg (N := 4) ?hd (cs := #[.int .i64 a1_0, .int .i64 a1_1, .int .i64 a1_2]) (t := 73) ?hr ?_; (case hd => rfl); (case hg => rfl); (case hr => first | (go_simp; done) | (go_simp; rfl)); intro gb845 hg w9 hbox hb; have n0_ := Aside0.mk (blk_below BK844.out hb); have n1_ := Aside0.mk (below_step HB.out hb); have n2_ := Aside0.mk (hbox); have n3_ := Aside0.mk ((by rw [hg]; exact (below_size HB.out) : w.heap.size ≤ gb845)); have n4_ := Aside0.mk ((by rw [hg]; exact (below_size HB.out) : w.heap.size ≤ gb845)); have n5_ := Aside0.mk ((by rw [hg]; exact Nat.ne_of_lt (blk_lt BK844.out) : gb844 ≠ gb845)); have n6_ := Aside0.mk ((by rw [hg]; exact Nat.ne_of_gt (blk_lt BK844.out) : gb845 ≠ gb844)); clear BK844; clear HB; have BK844 := n0_; have HB := n1_; have BK845 := n2_; have GW845 := n3_; have GE845 := n4_; have NB844_845 := n5_; have NB845_844 := n6_; clear n0_ n1_ n2_ n3_ n4_ n5_ n6_; clear hb hbox hg; have hnb10 := NB844_845.out; have hnc10 := NB845_844.out; have hcz11_0 : w9.cell? ⟨gb844, 0, none⟩ = some (.int .i64 a0_0) := (blk_cell BK844.out 0).trans rfl; have hcz11_1 : w9.cell? ⟨gb844, 1, none⟩ = some (.int .i64 a0_1) := (blk_cell BK844.out 1).trans rfl; have hcz11_2 : w9.cell? ⟨gb844, 2, none⟩ = some (.int .i8 a0_2) := (blk_cell BK844.out 2).trans rfl; have hcz11_3 : w9.cell? ⟨gb844, 3, none⟩ = some (.int .i8 a0_3) := (blk_cell BK844.out 3).trans rfl; have hfz11_0 := blk_frozen BK844.out 0; have hfz11_1 := blk_frozen BK844.out 1; have hfz11_2 := blk_frozen BK844.out 2; have hfz11_3 := blk_frozen BK844.out 3; have hcz12_0 : w9.cell? ⟨gb845, 0, none⟩ = some (.int .i64 a1_0) := (blk_cell BK845.out 0).trans rfl; have hcz12_1 : w9.cell? ⟨gb845, 1, none⟩ = some (.int .i64 a1_1) := (blk_cell BK845.out 1).trans rfl; have hcz12_2 : w9.cell? ⟨gb845, 2, none⟩ = some (.int .i64 a1_2) := (blk_cell BK845.out 2).trans rfl; have hfz12_0 := blk_frozen BK845.out 0; have hfz12_1 := blk_frozen BK845.out 1; have hfz12_2 := blk_frozen BK845.out 2) | ((with_reducible refine gate_callee (f := 145) rfl ?_); refine goesL_ (some 16) rfl rfl Try.func145 (by kernel_rfl) rfl #[.agg #[.int .i64 a0_0, .int .i64 a0_1, .int .i8 a0_2, .int .i8 a0_3], .agg #[.int .i64 a1_0, .int .i64 a1_1, .int .i64 a1_2], .slice A2 l2.length c2] rfl (by (try simp only [List.map_toArray, List.map_cons, List.map_nil]); first | done | rfl | (simp only [List.length_drop, List.length_take]; rfl)) ?_; (with_reducible refine (impl_actsCode.calls a0_0 a0_1 a0_2 a0_3 a1_0 a1_1 a1_2 _ _ l2 t846 _ ?side1 ?side2 A4.out).mono ?_); (case side1 => repeat (first | exact (Kd.C_below HR2.out HB.out) | (with_reducible refine Kd.C_alloc ?_ _) | (with_reducible refine Kd.C_drewN ?_ _) | (with_reducible refine Kd.C_drew ?_))); (case side2 => exact HC2.out); rintro e w13 ⟨rfl, hb⟩; refine ⟨_, rfl, ?_⟩; have n0_ := Aside0.mk (blk_below BK844.out hb); have n1_ := Aside0.mk (blk_below BK845.out hb); have n2_ := Aside0.mk (below_step HB.out hb); clear BK844; clear BK845; clear HB; have BK844 := n0_; have BK845 := n1_; have HB := n2_; clear n0_ n1_ n2_; (try clear hb); (try clear hb2); (try clear hk); (try clear hi); have hcz14_0 : w13.cell? ⟨gb844, 0, none⟩ = some (.int .i64 a0_0) := (blk_cell BK844.out 0).trans rfl; have hcz14_1 : w13.cell? ⟨gb844, 1, none⟩ = some (.int .i64 a0_1) := (blk_cell BK844.out 1).trans rfl; have hcz14_2 : w13.cell? ⟨gb844, 2, none⟩ = some (.int .i8 a0_2) := (blk_cell BK844.out 2).trans rfl; have hcz14_3 : w13.cell? ⟨gb844, 3, none⟩ = some (.int .i8 a0_3) := (blk_cell BK844.out 3).trans rfl; have hfz14_0 := blk_frozen BK844.out 0; have hfz14_1 := blk_frozen BK844.out 1; have hfz14_2 := blk_frozen BK844.out 2; have hfz14_3 := blk_frozen BK844.out 3; have hcz15_0 : w13.cell? ⟨gb845, 0, none⟩ = some (.int .i64 a1_0) := (blk_cell BK845.out 0).trans rfl; have hcz15_1 : w13.cell? ⟨gb845, 1, none⟩ = some (.int .i64 a1_1) := (blk_cell BK845.out 1).trans rfl; have hcz15_2 : w13.cell? ⟨gb845, 2, none⟩ = some (.int .i64 a1_2) := (blk_cell BK845.out 2).trans rfl; have hfz15_0 := blk_frozen BK845.out 0; have hfz15_1 := blk_frozen BK845.out 1; have hfz15_2 := blk_frozen BK845.out 2) | ((with_reducible refine gate_callee (f := 146) rfl ?_); refine goesL_ (some 24) rfl rfl Try.func146 (by kernel_rfl) rfl #[.agg #[.int .i64 a0_0, .int .i64 a0_1, .int .i8 a0_2, .int .i8 a0_3], .agg #[.int .i64 a1_0, .int .i64 a1_1, .int .i64 a1_2], .slice A2 l2.length c2] rfl (by (try simp only [List.map_toArray, List.map_cons, List.map_nil]); first | done | rfl | (simp only [List.length_drop, List.length_take]; rfl)) ?_; (with_reducible refine (impl_doAll.calls k a0_0 a0_1 a0_2 a0_3 a1_0 a1_1 a1_2 _ _ l2 t847 t848 t849 t850 t851 t854 _ ?side1 ?side2 A6.out).mono ?_); (case side1 => repeat (first | exact (Kd.C_below HR2.out HB.out) | (with_reducible refine Kd.C_alloc ?_ _) | (with_reducible refine Kd.C_drewN ?_ _) | (with_reducible refine Kd.C_drew ?_))); (case side2 => exact HC2.out); rintro e w16 ⟨v852, rfl, ho0, hb⟩; refine ⟨_, rfl, ?_⟩; have n0_ := Aside0.mk (Kd.R_lower ho0 (below_size HB.out)); have n1_ := Aside0.mk (blk_below BK844.out hb); have n2_ := Aside0.mk (blk_below BK845.out hb); have n3_ := Aside0.mk (below_step HB.out hb); clear BK844; clear BK845; clear HB; have HO853 := n0_; have BK844 := n1_; have BK845 := n2_; have HB := n3_; clear n0_ n1_ n2_ n3_; (try clear hb); (try clear hb2); (try clear hk); (try clear hi); (try clear ho0)) | ((with_reducible refine gate_dst (N := 9) rfl ?_); refine box_event ?hg (N := 9) ?hd (cs := #[.int .i64 0, .int .i64 0, .int .i64 0]) (t := 73) ?hr ?_; (case hd => rfl); (case hg => rfl); (case hr => first | (go_simp; done) | (go_simp; rfl)); intro gb855 hg w17 hbox hb; have n0_ := Aside0.mk (Kd.R_below HO853.out hb); have n1_ := Aside0.mk (blk_below BK844.out hb); have n2_ := Aside0.mk (blk_below BK845.out hb); have n3_ := Aside0.mk (below_step HB.out hb); have n4_ := Aside0.mk (hbox); have n5_ := Aside0.mk ((by rw [hg]; exact (below_size HB.out) : w.heap.size ≤ gb855)); have n6_ := Aside0.mk ((by rw [hg]; exact (below_size HB.out) : w.heap.size ≤ gb855)); have n7_ := Aside0.mk ((by rw [hg]; exact Nat.ne_of_lt (blk_lt BK844.out) : gb844 ≠ gb855)); have n8_ := Aside0.mk ((by rw [hg]; exact Nat.ne_of_gt (blk_lt BK844.out) : gb855 ≠ gb844)); have n9_ := Aside0.mk ((by rw [hg]; exact Nat.ne_of_lt (blk_lt BK845.out) : gb845 ≠ gb855)); have n10_ := Aside0.mk ((by rw [hg]; exact Nat.ne_of_gt (blk_lt BK845.out) : gb855 ≠ gb845)); clear HO853; clear BK844; clear BK845; clear HB; have HO853 := n0_; have BK844 := n1_; have BK845 := n2_; have HB := n3_; have BK855 := n4_; have GW855 := n5_; have GE855 := n6_; have NB844_855 := n7_; have NB855_844 := n8_; have NB845_855 := n9_; have NB855_845 := n10_; clear n0_ n1_ n2_ n3_ n4_ n5_ n6_ n7_ n8_ n9_ n10_; clear hb hbox hg; have hnb18 := NB855_844.out; have hnc18 := NB844_855.out; have hnb19 := NB855_845.out; have hnc19 := NB845_855.out; have hcz20_0 : w17.cell? ⟨gb855, 0, none⟩ = some (.int .i64 0) := (blk_cell BK855.out 0).trans rfl; have hcz20_1 : w17.cell? ⟨gb855, 1, none⟩ = some (.int .i64 0) := (blk_cell BK855.out 1).trans rfl; have hcz20_2 : w17.cell? ⟨gb855, 2, none⟩ = some (.int .i64 0) := (blk_cell BK855.out 2).trans rfl; have hfz20_0 := blk_frozen BK855.out 0; have hfz20_1 := blk_frozen BK855.out 1; have hfz20_2 := blk_frozen BK855.out 2))
      go_ret2
      exact ⟨_, by first | rfl | (simp [errW_none, errW_some] <;> rfl) | (simp [*, errW_none, errW_some] <;> rfl), by (with_reducible repeat (first | apply Kd.R_alloc | apply Kd.R_drewN | apply Kd.R_drew)); exact Kd.R_mono (Kd.R_far (p := ⟨gb855, 2, none⟩) (Kd.R_far (p := ⟨gb855, 1, none⟩) (Kd.R_far (p := ⟨gb855, 0, none⟩) (Kd.R_types HO853.out BK855.out (by decide)) (fun _ hk => hk.2) (.int .i64 t847)) (fun _ hk => hk.2) (.int .i64 t848)) (fun _ hk => hk.2) (.int .i64 t849)) (fun _ hk => trivial), by repeat (first | (with_reducible first | exact HB.out | apply below_alloc | apply pw_below_drewN | apply below_drew1 | refine below_set ?_ GE844.out | refine below_set ?_ GE845.out | refine below_set ?_ GE855.out) | exact HB.out)⟩
    · rw [if_neg c7] at H
      have c7b0 : (t854 == 0) = false := beq_eq_false_iff_ne.mpr c7
      have c7b1 : (t854 != 0) = true := bne_iff_ne.mpr c7
      simp only [Option.some.injEq, Prod.mk.injEq] at H
      obtain ⟨rfl, rfl⟩ := H
      go_enter Try.func80, Try.ntmps80
      go_wp2_with (first | ((with_reducible refine gate_dst (N := 3) rfl ?_); refine box_event ?hg (N := 3) ?hd (cs := #[.int .i64 a0_0, .int .i64 a0_1, .int .i8 a0_2, .int .i8 a0_3]) (t := 71) ?hr ?_; (case hd => rfl); (case hg => rfl); (case hr => first | (go_simp; done) | (go_simp; rfl)); intro gb844 hg w21 hbox hb; have n0_ := Aside0.mk (below_step HB.out hb); have n1_ := Aside0.mk (hbox); have n2_ := Aside0.mk ((by rw [hg]; exact (below_size HB.out) : w.heap.size ≤ gb844)); have n3_ := Aside0.mk ((by rw [hg]; exact (below_size HB.out) : w.heap.size ≤ gb844)); clear HB; have HB := n0_; have BK844 := n1_; have GW844 := n2_; have GE844 := n3_; clear n0_ n1_ n2_ n3_; clear hb hbox hg) | ((with_reducible refine gate_dst (N := 4) rfl ?_); refine box_event ?hg (N := 4) ?hd (cs := #[.int .i64 a1_0, .int .i64 a1_1, .int .i64 a1_2]) (t := 73) ?hr ?_; (case hd => rfl); (case hg => rfl); (case hr => first | (go_simp; done) | (go_simp; rfl)); intro gb845 hg w22 hbox hb; have n0_ := Aside0.mk (blk_below BK844.out hb); have n1_ := Aside0.mk (below_step HB.out hb); have n2_ := Aside0.mk (hbox); have n3_ := Aside0.mk ((by rw [hg]; exact (below_size HB.out) : w.heap.size ≤ gb845)); have n4_ := Aside0.mk ((by rw [hg]; exact (below_size HB.out) : w.heap.size ≤ gb845)); have n5_ := Aside0.mk ((by rw [hg]; exact Nat.ne_of_lt (blk_lt BK844.out) : gb844 ≠ gb845)); have n6_ := Aside0.mk ((by rw [hg]; exact Nat.ne_of_gt (blk_lt BK844.out) : gb845 ≠ gb844)); clear BK844; clear HB; have BK844 := n0_; have HB := n1_; have BK845 := n2_; have GW845 := n3_; have GE845 := n4_; have NB844_845 := n5_; have NB845_844 := n6_; clear n0_ n1_ n2_ n3_ n4_ n5_ n6_; clear hb hbox hg; have hnb23 := NB844_845.out; have hnc23 := NB845_844.out; have hcz24_0 : w22.cell? ⟨gb844, 0, none⟩ = some (.int .i64 a0_0) := (blk_cell BK844.out 0).trans rfl; have hcz24_1 : w22.cell? ⟨gb844, 1, none⟩ = some (.int .i64 a0_1) := (blk_cell BK844.out 1).trans rfl; have hcz24_2 : w22.cell? ⟨gb844, 2, none⟩ = some (.int .i8 a0_2) := (blk_cell BK844.out 2).trans rfl; have hcz24_3 : w22.cell? ⟨gb844, 3, none⟩ = some (.int .i8 a0_3) := (blk_cell BK844.out 3).trans rfl; have hfz24_0 := blk_frozen BK844.out 0; have hfz24_1 := blk_frozen BK844.out 1; have hfz24_2 := blk_frozen BK844.out 2; have hfz24_3 := blk_frozen BK844.out 3; have hcz25_0 : w22.cell? ⟨gb845, 0, none⟩ = some (.int .i64 a1_0) := (blk_cell BK845.out 0).trans rfl; have hcz25_1 : w22.cell? ⟨gb845, 1, none⟩ = some (.int .i64 a1_1) := (blk_cell BK845.out 1).trans rfl; have hcz25_2 : w22.cell? ⟨gb845, 2, none⟩ = some (.int .i64 a1_2) := (blk_cell BK845.out 2).trans rfl; have hfz25_0 := blk_frozen BK845.out 0; have hfz25_1 := blk_frozen BK845.out 1; have hfz25_2 := blk_frozen BK845.out 2) | ((with_reducible refine gate_callee (f := 145) rfl ?_); refine goesL_ (some 16) rfl rfl Try.func145 (by kernel_rfl) rfl #[.agg #[.int .i64 a0_0, .int .i64 a0_1, .int .i8 a0_2, .int .i8 a0_3], .agg #[.int .i64 a1_0, .int .i64 a1_1, .int .i64 a1_2], .slice A2 l2.length c2] rfl (by (try simp only [List.map_toArray, List.map_cons, List.map_nil]); first | done | rfl | (simp only [List.length_drop, List.length_take]; rfl)) ?_; (with_reducible refine (impl_actsCode.calls a0_0 a0_1 a0_2 a0_3 a1_0 a1_1 a1_2 _ _ l2 t846 _ ?side1 ?side2 A4.out).mono ?_); (case side1 => repeat (first | exact (Kd.C_below HR2.out HB.out) | (with_reducible refine Kd.C_alloc ?_ _) | (with_reducible refine Kd.C_drewN ?_ _) | (with_reducible refine Kd.C_drew ?_))); (case side2 => exact HC2.out); rintro e w26 ⟨rfl, hb⟩; refine ⟨_, rfl, ?_⟩; have n0_ := Aside0.mk (blk_below BK844.out hb); have n1_ := Aside0.mk (blk_below BK845.out hb); have n2_ := Aside0.mk (below_step HB.out hb); clear BK844; clear BK845; clear HB; have BK844 := n0_; have BK845 := n1_; have HB := n2_; clear n0_ n1_ n2_; (try clear hb); (try clear hb2); (try clear hk); (try clear hi); have hcz27_0 : w26.cell? ⟨gb844, 0, none⟩ = some (.int .i64 a0_0) := (blk_cell BK844.out 0).trans rfl; have hcz27_1 : w26.cell? ⟨gb844, 1, none⟩ = some (.int .i64 a0_1) := (blk_cell BK844.out 1).trans rfl; have hcz27_2 : w26.cell? ⟨gb844, 2, none⟩ = some (.int .i8 a0_2) := (blk_cell BK844.out 2).trans rfl; have hcz27_3 : w26.cell? ⟨gb844, 3, none⟩ = some (.int .i8 a0_3) := (blk_cell BK844.out 3).trans rfl; have hfz27_0 := blk_frozen BK844.out 0; have hfz27_1 := blk_frozen BK844.out 1; have hfz27_2 := blk_frozen BK844.out 2; have hfz27_3 := blk_frozen BK844.out 3; have hcz28_0 : w26.cell? ⟨gb845, 0, none⟩ = some (.int .i64 a1_0) := (blk_cell BK845.out 0).trans rfl; have hcz28_1 : w26.cell? ⟨gb845, 1, none⟩ = some (.int .i64 a1_1) := (blk_cell BK845.out 1).trans rfl; have hcz28_2 : w26.cell? ⟨gb845, 2, none⟩ = some (.int .i64 a1_2) := (blk_cell BK845.out 2).trans rfl; have hfz28_0 := blk_frozen BK845.out 0; have hfz28_1 := blk_frozen BK845.out 1; have hfz28_2 := blk_frozen BK845.out 2) | ((with_reducible refine gate_callee (f := 146) rfl ?_); refine goesL_ (some 24) rfl rfl Try.func146 (by kernel_rfl) rfl #[.agg #[.int .i64 a0_0, .int .i64 a0_1, .int .i8 a0_2, .int .i8 a0_3], .agg #[.int .i64 a1_0, .int .i64 a1_1, .int .i64 a1_2], .slice A2 l2.length c2] rfl (by (try simp only [List.map_toArray, List.map_cons, List.map_nil]); first | done | rfl | (simp only [List.length_drop, List.length_take]; rfl)) ?_; (with_reducible refine (impl_doAll.calls k a0_0 a0_1 a0_2 a0_3 a1_0 a1_1 a1_2 _ _ l2 t847 t848 t849 t850 t851 t854 _ ?side1 ?side2 A6.out).mono ?_); (case side1 => repeat (first | exact (Kd.C_below HR2.out HB.out) | (with_reducible refine Kd.C_alloc ?_ _) | (with_reducible refine Kd.C_drewN ?_ _) | (with_reducible refine Kd.C_drew ?_))); (case side2 => exact HC2.out); rintro e w29 ⟨v852, rfl, ho0, hb⟩; refine ⟨_, rfl, ?_⟩; have n0_ := Aside0.mk (Kd.R_lower ho0 (below_size HB.out)); have n1_ := Aside0.mk (blk_below BK844.out hb); have n2_ := Aside0.mk (blk_below BK845.out hb); have n3_ := Aside0.mk (below_step HB.out hb); clear BK844; clear BK845; clear HB; have HO853 := n0_; have BK844 := n1_; have BK845 := n2_; have HB := n3_; clear n0_ n1_ n2_ n3_; (try clear hb); (try clear hb2); (try clear hk); (try clear hi); (try clear ho0)) | ((with_reducible refine gate_dst (N := 9) rfl ?_); refine box_event ?hg (N := 9) ?hd (cs := #[.int .i64 0, .int .i64 0, .int .i64 0]) (t := 73) ?hr ?_; (case hd => rfl); (case hg => rfl); (case hr => first | (go_simp; done) | (go_simp; rfl)); intro gb855 hg w30 hbox hb; have n0_ := Aside0.mk (Kd.R_below HO853.out hb); have n1_ := Aside0.mk (blk_below BK844.out hb); have n2_ := Aside0.mk (blk_below BK845.out hb); have n3_ := Aside0.mk (below_step HB.out hb); have n4_ := Aside0.mk (hbox); have n5_ := Aside0.mk ((by rw [hg]; exact (below_size HB.out) : w.heap.size ≤ gb855)); have n6_ := Aside0.mk ((by rw [hg]; exact (below_size HB.out) : w.heap.size ≤ gb855)); have n7_ := Aside0.mk ((by rw [hg]; exact Nat.ne_of_lt (blk_lt BK844.out) : gb844 ≠ gb855)); have n8_ := Aside0.mk ((by rw [hg]; exact Nat.ne_of_gt (blk_lt BK844.out) : gb855 ≠ gb844)); have n9_ := Aside0.mk ((by rw [hg]; exact Nat.ne_of_lt (blk_lt BK845.out) : gb845 ≠ gb855)); have n10_ := Aside0.mk ((by rw [hg]; exact Nat.ne_of_gt (blk_lt BK845.out) : gb855 ≠ gb845)); clear HO853; clear BK844; clear BK845; clear HB; have HO853 := n0_; have BK844 := n1_; have BK845 := n2_; have HB := n3_; have BK855 := n4_; have GW855 := n5_; have GE855 := n6_; have NB844_855 := n7_; have NB855_844 := n8_; have NB845_855 := n9_; have NB855_845 := n10_; clear n0_ n1_ n2_ n3_ n4_ n5_ n6_ n7_ n8_ n9_ n10_; clear hb hbox hg; have hnb31 := NB855_844.out; have hnc31 := NB844_855.out; have hnb32 := NB855_845.out; have hnc32 := NB845_855.out; have hcz33_0 : w30.cell? ⟨gb855, 0, none⟩ = some (.int .i64 0) := (blk_cell BK855.out 0).trans rfl; have hcz33_1 : w30.cell? ⟨gb855, 1, none⟩ = some (.int .i64 0) := (blk_cell BK855.out 1).trans rfl; have hcz33_2 : w30.cell? ⟨gb855, 2, none⟩ = some (.int .i64 0) := (blk_cell BK855.out 2).trans rfl; have hfz33_0 := blk_frozen BK855.out 0; have hfz33_1 := blk_frozen BK855.out 1; have hfz33_2 := blk_frozen BK855.out 2))
      go_ret2
      exact ⟨_, by first | rfl | (simp [errW_none, errW_some] <;> rfl) | (simp [*, errW_none, errW_some] <;> rfl), by first | exact Kd.R_nil _ _ _ _ _ | exact Kd.N_nil _ _ _ _ _ | exact Kd.V_nil _ _ _ _ _ | exact Kd.Q_nil _ _ _ _ _ | exact Kd.S_nil _ _ _ _ _, by repeat (first | (with_reducible first | exact HB.out | apply below_alloc | apply pw_below_drewN | apply below_drew1 | refine below_set ?_ GE844.out | refine below_set ?_ GE845.out | refine below_set ?_ GE855.out) | exact HB.out)⟩
  · rw [if_neg c5] at H
    have c5b0 : (t846 == 0) = false := beq_eq_false_iff_ne.mpr c5
    have c5b1 : (t846 != 0) = true := bne_iff_ne.mpr c5
    simp only [Option.some.injEq, Prod.mk.injEq] at H
    obtain ⟨rfl, rfl⟩ := H
    go_enter Try.func80, Try.ntmps80
    go_wp2_with (first | ((with_reducible refine gate_dst (N := 3) rfl ?_); refine box_event ?hg (N := 3) ?hd (cs := #[.int .i64 a0_0, .int .i64 a0_1, .int .i8 a0_2, .int .i8 a0_3]) (t := 71) ?hr ?_; (case hd => rfl); (case hg => rfl); (case hr => first | (go_simp; done) | (go_simp; rfl)); intro gb844 hg w34 hbox hb; have n0_ := Aside0.mk (below_step HB.out hb); have n1_ := Aside0.mk (hbox); have n2_ := Aside0.mk ((by rw [hg]; exact (below_size HB.out) : w.heap.size ≤ gb844)); have n3_ := Aside0.mk ((by rw [hg]; exact (below_size HB.out) : w.heap.size ≤ gb844)); clear HB; have HB := n0_; have BK844 := n1_; have GW844 := n2_; have GE844 := n3_; clear n0_ n1_ n2_ n3_; clear hb hbox hg) | ((with_reducible refine gate_dst (N := 4) rfl ?_); refine box_event ?hg (N := 4) ?hd (cs := #[.int .i64 a1_0, .int .i64 a1_1, .int .i64 a1_2]) (t := 73) ?hr ?_; (case hd => rfl); (case hg => rfl); (case hr => first | (go_simp; done) | (go_simp; rfl)); intro gb845 hg w35 hbox hb; have n0_ := Aside0.mk (blk_below BK844.out hb); have n1_ := Aside0.mk (below_step HB.out hb); have n2_ := Aside0.mk (hbox); have n3_ := Aside0.mk ((by rw [hg]; exact (below_size HB.out) : w.heap.size ≤ gb845)); have n4_ := Aside0.mk ((by rw [hg]; exact (below_size HB.out) : w.heap.size ≤ gb845)); have n5_ := Aside0.mk ((by rw [hg]; exact Nat.ne_of_lt (blk_lt BK844.out) : gb844 ≠ gb845)); have n6_ := Aside0.mk ((by rw [hg]; exact Nat.ne_of_gt (blk_lt BK844.out) : gb845 ≠ gb844)); clear BK844; clear HB; have BK844 := n0_; have HB := n1_; have BK845 := n2_; have GW845 := n3_; have GE845 := n4_; have NB844_845 := n5_; have NB845_844 := n6_; clear n0_ n1_ n2_ n3_ n4_ n5_ n6_; clear hb hbox hg; have hnb36 := NB844_845.out; have hnc36 := NB845_844.out; have hcz37_0 : w35.cell? ⟨gb844, 0, none⟩ = some (.int .i64 a0_0) := (blk_cell BK844.out 0).trans rfl; have hcz37_1 : w35.cell? ⟨gb844, 1, none⟩ = some (.int .i64 a0_1) := (blk_cell BK844.out 1).trans rfl; have hcz37_2 : w35.cell? ⟨gb844, 2, none⟩ = some (.int .i8 a0_2) := (blk_cell BK844.out 2).trans rfl; have hcz37_3 : w35.cell? ⟨gb844, 3, none⟩ = some (.int .i8 a0_3) := (blk_cell BK844.out 3).trans rfl; have hfz37_0 := blk_frozen BK844.out 0; have hfz37_1 := blk_frozen BK844.out 1; have hfz37_2 := blk_frozen BK844.out 2; have hfz37_3 := blk_frozen BK844.out 3; have hcz38_0 : w35.cell? ⟨gb845, 0, none⟩ = some (.int .i64 a1_0) := (blk_cell BK845.out 0).trans rfl; have hcz38_1 : w35.cell? ⟨gb845, 1, none⟩ = some (.int .i64 a1_1) := (blk_cell BK845.out 1).trans rfl; have hcz38_2 : w35.cell? ⟨gb845, 2, none⟩ = some (.int .i64 a1_2) := (blk_cell BK845.out 2).trans rfl; have hfz38_0 := blk_frozen BK845.out 0; have hfz38_1 := blk_frozen BK845.out 1; have hfz38_2 := blk_frozen BK845.out 2) | ((with_reducible refine gate_callee (f := 145) rfl ?_); refine goesL_ (some 16) rfl rfl Try.func145 (by kernel_rfl) rfl #[.agg #[.int .i64 a0_0, .int .i64 a0_1, .int .i8 a0_2, .int .i8 a0_3], .agg #[.int .i64 a1_0, .int .i64 a1_1, .int .i64 a1_2], .slice A2 l2.length c2] rfl (by (try simp only [List.map_toArray, List.map_cons, List.map_nil]); first | done | rfl | (simp only [List.length_drop, List.length_take]; rfl)) ?_; (with_reducible refine (impl_actsCode.calls a0_0 a0_1 a0_2 a0_3 a1_0 a1_1 a1_2 _ _ l2 t846 _ ?side1 ?side2 A4.out).mono ?_); (case side1 => repeat (first | exact (Kd.C_below HR2.out HB.out) | (with_reducible refine Kd.C_alloc ?_ _) | (with_reducible refine Kd.C_drewN ?_ _) | (with_reducible refine Kd.C_drew ?_))); (case side2 => exact HC2.out); rintro e w39 ⟨rfl, hb⟩; refine ⟨_, rfl, ?_⟩; have n0_ := Aside0.mk (blk_below BK844.out hb); have n1_ := Aside0.mk (blk_below BK845.out hb); have n2_ := Aside0.mk (below_step HB.out hb); clear BK844; clear BK845; clear HB; have BK844 := n0_; have BK845 := n1_; have HB := n2_; clear n0_ n1_ n2_; (try clear hb); (try clear hb2); (try clear hk); (try clear hi)))
    go_ret2
    exact ⟨_, by first | rfl | (simp [errW_none, errW_some] <;> rfl) | (simp [*, errW_none, errW_some] <;> rfl), by first | exact Kd.R_nil _ _ _ _ _ | exact Kd.N_nil _ _ _ _ _ | exact Kd.V_nil _ _ _ _ _ | exact Kd.Q_nil _ _ _ _ _ | exact Kd.S_nil _ _ _ _ _, by repeat (first | (with_reducible first | exact HB.out | apply below_alloc | apply pw_below_drewN | apply below_drew1 | refine below_set ?_ GE844.out | refine below_set ?_ GE845.out) | exact HB.out)⟩

/-! ### laws_markActS: function 81 -/
def laws_markActS.l0 : Nat → List (S161) → Int → Int → Option (Int × (List (S161)))
  | 0, _, _, _ => none
  | k + 1, x0, x1, x5 => if x5 < (x0.length : Int) then (if 0 ≤ x5 then ((some (x0.set (x5 : Int).toNat (⟨IntKind.i8.wrap (x1), (rd_T161 x0 x5).f1⟩ : S161) : List (S161))).bind fun y856 => (laws_markActS.l0 k (y856.set (x5 : Int).toNat (⟨(rd_T161 y856 x5).f0, wrap64 (x1 + 1)⟩ : S161)) (wrap64 ((wrap64 (x1 + 1)) + 1)) (wrap64 (x5 + 1)))) else (none)) else (some (x1, x0))
def laws_markActS.f (k : Nat) (l0 : List (S161)) (a1 : Int) : Option (Int × (List (S161))) := laws_markActS.l0 k l0 a1 0
theorem laws_markActS.mono_l : ∀ k, (∀ y0 y1 y2, LeO (laws_markActS.l0 k y0 y1 y2) (laws_markActS.l0 (k + 1) y0 y1 y2))
  | 0 => fun _ _ _ r h => by simp [laws_markActS.l0] at h
  | k + 1 => by
    have ih0 := laws_markActS.mono_l k
    · intro y0 y1 y2
      unfold laws_markActS.l0
      repeat' first
      | (with_reducible exact ih0 _ _ _)
      | (with_reducible exact LeO.refl _)
      | (with_reducible exact LeO.none _)
      | (with_reducible refine LeO.ite ?_ ?_)
      | (with_reducible refine LeO.bind ?_ (fun _ => ?_))
      | exact ih0 _ _ _
      | exact LeO.none _
      | refine LeO.ite ?_ ?_
      | refine LeO.bind ?_ (fun _ => ?_)
theorem laws_markActS.mono : ∀ a0 a1 k, LeO (laws_markActS.f k a0 a1) (laws_markActS.f (k + 1) a0 a1) := by
  intro a0 a1 k
  have ih0 := laws_markActS.mono_l k
  unfold laws_markActS.f
  repeat' first
      | (with_reducible exact ih0 _ _ _)
      | (with_reducible exact LeO.refl _)
      | (with_reducible exact LeO.none _)
      | (with_reducible refine LeO.ite ?_ ?_)
      | (with_reducible refine LeO.bind ?_ (fun _ => ?_))
      | exact ih0 _ _ _
      | exact LeO.none _
      | refine LeO.ite ?_ ?_
      | refine LeO.bind ?_ (fun _ => ?_)
set_option maxHeartbeats 8000000 in
set_option maxRecDepth 100000 in
theorem laws_markActS.calls (k : Nat) (P0_ : Nat → Prop) (u9000_ : Value) (l0 : List (S161)) (a1 : Int) (r1 : Int) (r2 : List (S161)) (w0 w : World) (hB : Below w0.heap.size w0 w) (ho0 : Kd.R k161 161 w w0.heap.size P0_ u9000_ l0) (h : laws_markActS.f k l0 a1 = some (r1, r2)) :
    Calls Try.prog 81 #[u9000_, .int .i64 a1] w fun e w' => e = .returned (.int .i64 r1) ∧ Kd.R k161 161 w' w0.heap.size (fun k_ => (P0_ k_ ∨ w.heap.size ≤ k_)) u9000_ r2 ∧ Below w0.heap.size w0 w' ∧ Kept w w' (fun k_ => P0_ k_) := by
  have HO0 := Aside0.mk (show Kd.R k161 161 w w0.heap.size (fun k_ => (P0_ k_ ∨ w.heap.size ≤ k_)) u9000_ l0 from Kd.R_mono ho0 (fun k_ hk => (.inl hk)))
  have HK := Aside0.mk (Kept.refl w (fun k_ => P0_ k_))
  have HW0 := Aside0.mk hB.size
  have HB := Aside0.mk hB
  clear hB
  have H : (laws_markActS.l0 k l0 a1 0) = some (r1, r2) := h
  clear h
  have H' := Aside0.mk H
  clear H
  go_enter Try.func81, Try.ntmps81
  go_wp2
  go_loopg [1, 5] k (fun kq v1 v5 w' => ∃ (x0_1 : List (S161)) (x1_1 : Int) (x5_1 : Int), v1 = .int .i64 x1_1 ∧ v5 = .int .i64 x5_1 ∧ Aside0 (laws_markActS.l0 kq x0_1 x1_1 x5_1 = some (r1, r2)) ∧ Aside0 (kq ≤ k) ∧ Aside0 (Kd.R k161 161 w' w0.heap.size (fun k_ => (P0_ k_ ∨ w.heap.size ≤ k_)) u9000_ x0_1) ∧ Aside0 (Kept w w' (fun k_ => P0_ k_)) ∧ Aside0 (Below w0.heap.size w0 w'))
  case atStart => exact ⟨(l0), (a1), (0), (by first | rfl | (simp; done) | (simp [*]; done)), (by first | rfl | (simp; done) | (simp [*]; done)), H', ⟨Nat.le_refl _⟩, ⟨by (with_reducible repeat (first | apply Kd.R_alloc | apply Kd.R_drewN | apply Kd.R_drew)); exact HO0.out⟩, ⟨by repeat (first | (with_reducible first | exact HK.out | apply Kept.alloc | apply Kept.drewN | apply Kept.drew) | exact HK.out)⟩, ⟨by repeat (first | (with_reducible first | exact HB.out | apply below_alloc | apply pw_below_drewN | apply below_drew1) | exact HB.out)⟩⟩
  case round =>
    clear H'
    try clear p2
    obtain ⟨x0_1, x1_1, x5_1, rfl, rfl, HA, HK1, HO_0, HK, HB⟩ := hrel
    cases gk with
    | zero => exact absurd HA.out (by simp [laws_markActS.l0])
    | succ k1 =>
      have H := HA.out
      clear HA
      simp only [laws_markActS.l0] at H
      by_cases c3 : x5_1 < (x0_1.length : Int)
      · rw [if_pos c3] at H
        have c3b0 : decide (x5_1 < (x0_1.length : Int)) = true := decide_eq_true c3
        clear c3
        by_cases c4 : 0 ≤ x5_1
        · rw [if_pos c4] at H
          have c4b0 : decide (0 ≤ x5_1) = true := decide_eq_true c4
          clear c4
          obtain ⟨y856, hy856⟩ : ∃ y_ : List (S161), y_ = (x0_1.set (x5_1 : Int).toNat (⟨IntKind.i8.wrap (x1_1), (rd_T161 x0_1 x5_1).f1⟩ : S161)) := ⟨_, rfl⟩
          replace H : (laws_markActS.l0 k1 (y856.set (x5_1 : Int).toNat (⟨(rd_T161 y856 x5_1).f0, wrap64 (x1_1 + 1)⟩ : S161)) (wrap64 ((wrap64 (x1_1 + 1)) + 1)) (wrap64 (x5_1 + 1))) = some (r1, r2) := by first | (rw [hy856]; with_reducible exact H) | (have H2_ := (Option.bind_some _ _).symm.trans H; rw [hy856]; with_reducible exact H2_) | (have H2_ := (Option.bind_some _ _).symm.trans H; with_reducible exact H2_) | with_reducible exact H | (rw [hy856]; exact H) | exact H
          have Ny856 := Aside0.mk hy856
          clear hy856
          obtain ⟨y857, hy857⟩ : ∃ y_ : List (S161), y_ = (y856.set (x5_1 : Int).toNat (⟨(rd_T161 y856 x5_1).f0, wrap64 (x1_1 + 1)⟩ : S161)) := ⟨_, rfl⟩
          replace H : (laws_markActS.l0 k1 y857 (wrap64 ((wrap64 (x1_1 + 1)) + 1)) (wrap64 (x5_1 + 1))) = some (r1, r2) := by first | (rw [hy857]; with_reducible exact H) | (have H2_ := (Option.bind_some _ _).symm.trans H; rw [hy857]; with_reducible exact H2_) | (have H2_ := (Option.bind_some _ _).symm.trans H; with_reducible exact H2_) | with_reducible exact H | (rw [hy857]; exact H) | exact H
          have Ny857 := Aside0.mk hy857
          clear hy857
          have H' := Aside0.mk H
          clear H
          obtain ⟨Ao7, co7, eo7⟩ := Kd.R_slice HO_0.out
          subst eo7
          have p5 : 0 ≤ (x5_1 : Int) := of_decide_eq_true (by first | (with_reducible assumption) | assumption)
          have q5 : (x5_1 : Int) < ((x0_1.length : Int) : Int) := of_decide_eq_true (by first | (with_reducible assumption) | assumption)
          obtain ⟨go5, co5, eo5, gb5, gl5, cl5, HG5⟩ := Kd.R_form HO_0.out (by omega)
          (first | cases eo5 | (injection eo5 with ea_ en_ ec_; (first | subst ea_ | (injection ea_ with ea_; subst ea_)); subst ec_; clear en_))
          have GB5 := Aside0.mk gb5
          have GG5 := Aside0.mk HG5
          clear gb5 gl5 HG5
          have HMgo5 := Aside0.mk (show (P0_ go5 ∨ w.heap.size ≤ go5) from (HO_0.out.1 _ rfl))
          obtain ⟨ce5, hcl5, hM5, hcc5, hfr5⟩ := Kd.R_elem HO_0.out z161 (x5_1 : Int) p5 q5
          obtain rfl := k161_openM hM5
          have hx5_0 : wr.cell? ⟨go5, (x5_1 : Int).toNat * 2, none⟩ = some (.int .i8 ((rd_T161 x0_1 x5_1).f0)) := hcc5 0 _ rfl
          have hx5_1 : wr.cell? ⟨go5, (x5_1 : Int).toNat * 2 + 1, none⟩ = some (.int .i64 ((rd_T161 x0_1 x5_1).f1)) := hcc5 1 _ rfl
          have hf5_0 : wr.frozen? ⟨go5, (x5_1 : Int).toNat * 2, none⟩ = false := hfr5 0
          have hf5_1 : wr.frozen? ⟨go5, (x5_1 : Int).toNat * 2 + 1, none⟩ = false := hfr5 1
          clear hcl5 hcc5 hfr5 hM5
          replace p5 := eq_true p5
          replace q5 := eq_true q5
          have HX8 := Aside0.mk (show Kd.R k161 161 wr w0.heap.size (fun k_ => (P0_ k_ ∨ w.heap.size ≤ k_)) (.slice (some ⟨go5, 0, none⟩) x0_1.length co7) x0_1 from HO_0.out)
          obtain ⟨ce8, hcl8, hM8, hcc8, hfr8⟩ := Kd.R_elem HX8.out z161 (x5_1 : Int) (of_decide_eq_true (by first | (with_reducible assumption) | assumption)) (by have h_ : (x5_1 : Int) < ((x0_1.length : Int) : Int) := of_decide_eq_true (by first | (with_reducible assumption) | assumption); first | exact h_ | (have e_ := (Kd.R_reads' HO_0.out).1; omega) | simpa using h_)
          obtain rfl := k161_openM hM8
          have HP8 := Kd.R_seg HX8.out (x5_1 : Int) (of_decide_eq_true (by first | (with_reducible assumption) | assumption)) (by have h_ : (x5_1 : Int) < ((x0_1.length : Int) : Int) := of_decide_eq_true (by first | (with_reducible assumption) | assumption); first | exact h_ | (have e_ := (Kd.R_reads' HO_0.out).1; omega) | simpa using h_) (seg := [.int .i8 (IntKind.i8.wrap (x1_1))]) (j := 0) hcl8 hcc8 (show 1 ≤ 2 from by decide) (x' := (⟨IntKind.i8.wrap (x1_1), (rd_T161 x0_1 x5_1).f1⟩ : S161)) (k161_mkM _ _ _ (⟨IntKind.i8.wrap (x1_1), (rd_T161 x0_1 x5_1).f1⟩ : S161) ) (fun _ hk => hk)
          have hx8_0 := hcc8 0 _ rfl
          (try simp only [show (k161).sz = 2 from rfl, Nat.mul_one, Nat.add_zero] at hx8_0)
          have hf8_0 := hfr8 0
          (try simp only [show (k161).sz = 2 from rfl, Nat.mul_one, Nat.add_zero] at hf8_0)
          clear hcl8 hcc8 hfr8 hM8
          go_wp2_with (first | ((with_reducible refine gate_store (t := 44) (p := 17) rfl ?_); refine store_event (t := 44) (p := 17) (v := ?vo_w9) (w1 := (wr.setCell ⟨go5, (x5_1 : Int).toNat * 2, none⟩ (.int .i8 (IntKind.i8.wrap (x1_1))))) ?hg ?ho ?hn ?hr ?_; (case ho => rfl); (case hg => rfl); (case hn => rfl); (case hr => first | (go_simp; done) | (go_simp; rfl)); intro w9 hw; have hg : wr.grownBy w9 (some go5) := (by rw [hw]; exact HP8.2); have hp_ : Kd.R k161 161 w9 w0.heap.size (fun k_ => (P0_ k_ ∨ w.heap.size ≤ k_)) (.slice (some ⟨go5, 0, none⟩) x0_1.length co7) y856 := (by rw [hw, Ny856.out]; exact HP8.1); clear HP8; have n0_ := Aside0.mk (hp_); have n1_ := Aside0.mk ((by rw [hw]; exact below_set (HB.out) GB5.out : Below w0.heap.size w0 w9)); have n2_ := Aside0.mk (Kept.of_grown (S := (fun k_ => P0_ k_)) hg (by repeat (first | (with_reducible first | exact HK.out | apply Kept.alloc | apply Kept.drewN | apply Kept.drew) | exact HK.out)) (fun k_ e_ => (HO_0.out.1 k_ e_))); clear HO_0; clear HB; clear HK; have HO_0 := n0_; have HB := n1_; have HK := n2_; clear n0_ n1_ n2_; clear hg hw hp_; have p6 : 0 ≤ (x5_1 : Int) := of_decide_eq_true (by first | (with_reducible assumption) | assumption); have q6 : (x5_1 : Int) < ((x0_1.length : Int) : Int) := of_decide_eq_true (by first | (with_reducible assumption) | assumption); obtain ⟨ce6, hcl6, hM6, hcc6, hfr6⟩ := Kd.R_elem HO_0.out z161 (x5_1 : Int) p6 q6; obtain rfl := k161_openM hM6; have hx6_0 : w9.cell? ⟨go5, (x5_1 : Int).toNat * 2, none⟩ = some (.int .i8 ((rd_T161 y856 x5_1).f0)) := hcc6 0 _ rfl; have hx6_1 : w9.cell? ⟨go5, (x5_1 : Int).toNat * 2 + 1, none⟩ = some (.int .i64 ((rd_T161 y856 x5_1).f1)) := hcc6 1 _ rfl; have hf6_0 : w9.frozen? ⟨go5, (x5_1 : Int).toNat * 2, none⟩ = false := hfr6 0; have hf6_1 : w9.frozen? ⟨go5, (x5_1 : Int).toNat * 2 + 1, none⟩ = false := hfr6 1; clear hcl6 hcc6 hfr6 hM6; replace p6 := eq_true p6; replace q6 := eq_true q6; have HX10 := Aside0.mk (show Kd.R k161 161 w9 w0.heap.size (fun k_ => (P0_ k_ ∨ w.heap.size ≤ k_)) (.slice (some ⟨go5, 0, none⟩) x0_1.length co7) y856 from HO_0.out); obtain ⟨ce10, hcl10, hM10, hcc10, hfr10⟩ := Kd.R_elem HX10.out z161 (x5_1 : Int) (of_decide_eq_true (by first | (with_reducible assumption) | assumption)) (by have h_ : (x5_1 : Int) < ((x0_1.length : Int) : Int) := of_decide_eq_true (by first | (with_reducible assumption) | assumption); first | exact h_ | (have e_ := (Kd.R_reads' HO_0.out).1; omega) | simpa using h_); obtain rfl := k161_openM hM10; have HP10 := Kd.R_seg HX10.out (x5_1 : Int) (of_decide_eq_true (by first | (with_reducible assumption) | assumption)) (by have h_ : (x5_1 : Int) < ((x0_1.length : Int) : Int) := of_decide_eq_true (by first | (with_reducible assumption) | assumption); first | exact h_ | (have e_ := (Kd.R_reads' HO_0.out).1; omega) | simpa using h_) (seg := [.int .i64 (wrap64 (x1_1 + 1))]) (j := 1) hcl10 hcc10 (show 2 ≤ 2 from by decide) (x' := (⟨(rd_T161 y856 x5_1).f0, wrap64 (x1_1 + 1)⟩ : S161)) (k161_mkM _ _ _ (⟨(rd_T161 y856 x5_1).f0, wrap64 (x1_1 + 1)⟩ : S161) ) (fun _ hk => hk); have hx10_1 := hcc10 1 _ rfl; (try simp only [show (k161).sz = 2 from rfl, Nat.mul_one, Nat.add_zero] at hx10_1); have hf10_1 := hfr10 1; (try simp only [show (k161).sz = 2 from rfl, Nat.mul_one, Nat.add_zero] at hf10_1); clear hcl10 hcc10 hfr10 hM10) | ((with_reducible refine gate_store (t := 2) (p := 24) rfl ?_); refine store_event (t := 2) (p := 24) (v := ?vo_w11) (w1 := (w9.setCell ⟨go5, (x5_1 : Int).toNat * 2 + 1, none⟩ (.int .i64 (wrap64 (x1_1 + 1))))) ?hg ?ho ?hn ?hr ?_; (case ho => rfl); (case hg => rfl); (case hn => rfl); (case hr => first | (go_simp; done) | (go_simp; rfl)); intro w11 hw; have hg : w9.grownBy w11 (some go5) := (by rw [hw]; exact HP10.2); have hp_ : Kd.R k161 161 w11 w0.heap.size (fun k_ => (P0_ k_ ∨ w.heap.size ≤ k_)) (.slice (some ⟨go5, 0, none⟩) x0_1.length co7) y857 := (by rw [hw, Ny857.out]; exact HP10.1); clear HP10; have n0_ := Aside0.mk (hp_); have n1_ := Aside0.mk ((by rw [hw]; exact below_set (HB.out) GB5.out : Below w0.heap.size w0 w11)); have n2_ := Aside0.mk (Kept.of_grown (S := (fun k_ => P0_ k_)) hg (by repeat (first | (with_reducible first | exact HK.out | apply Kept.alloc | apply Kept.drewN | apply Kept.drew) | exact HK.out)) (fun k_ e_ => (HO_0.out.1 k_ e_))); clear HO_0; clear HB; clear HK; have HO_0 := n0_; have HB := n1_; have HK := n2_; clear n0_ n1_ n2_; clear hg hw hp_))
          go_roundg k1
          case measure => have := HK1.out; omega
          case rel => exact ⟨(y857), (wrap64 ((wrap64 (x1_1 + 1)) + 1)), (wrap64 (x5_1 + 1)), (by first | rfl | (simp; done) | (simp [*]; done)), (by first | rfl | (simp; done) | (simp [*]; done)), H', ⟨by have := HK1.out; omega⟩, ⟨by (with_reducible repeat (first | apply Kd.R_alloc | apply Kd.R_drewN | apply Kd.R_drew)); exact HO_0.out⟩, ⟨by repeat (first | (with_reducible first | exact HK.out | apply Kept.alloc | apply Kept.drewN | apply Kept.drew) | exact HK.out)⟩, ⟨by repeat (first | (with_reducible first | exact HB.out | apply below_alloc | apply pw_below_drewN | apply below_drew1) | exact HB.out)⟩⟩
        · rw [if_neg c4] at H
          exact absurd H (by simp)
      · rw [if_neg c3] at H
        have c3b0 : decide (x5_1 < (x0_1.length : Int)) = false := decide_eq_false c3
        clear c3
        simp only [Option.some.injEq, Prod.mk.injEq] at H
        obtain ⟨rfl, rfl⟩ := H
        obtain ⟨Ao12, co12, eo12⟩ := Kd.R_slice HO_0.out
        subst eo12
        go_wp2
        go_ret
        exact ⟨by first | rfl | (simp [errW_none, errW_some] <;> rfl) | (simp [*, errW_none, errW_some] <;> rfl), by (with_reducible repeat (first | apply Kd.R_alloc | apply Kd.R_drewN | apply Kd.R_drew)); exact HO_0.out, by repeat (first | (with_reducible first | exact HB.out | apply below_alloc | apply pw_below_drewN | apply below_drew1) | exact HB.out), by repeat (first | (with_reducible first | exact HK.out | apply Kept.alloc | apply Kept.drewN | apply Kept.drew) | exact HK.out)⟩

end Go.Proofs.Ytcimollhdocphaa.Q
