-- Written by wip/mk.py of this repository (a run of the kit's print with hand-proved leaves added); Lean checks it.
import Derived.Test.YtcimollhdocphaaQx0
import Derived.Test.YtcimollhdocphaaQx20
namespace Go.Proofs.Ytcimollhdocphaa.Q
open Go.RowKit Go.Proofs.YtcimollhdocphaaW.PrintWords Go.Proofs.YtcimollhdocphaaW.PrintLast Go.Proofs.YtcimollhdocphaaW.PrintMore
attribute [local go_sem] max2_int min2_int max_two min_two max_three min_three max_four min_four   -- for this text's walks alone
set_option linter.unusedVariables false
set_option linter.unusedSimpArgs false

/-! ### spec_l04Do: function 143 -/
def spec_l04Do.l0 : Nat → List (S161) → List (S73) → Int → Int → Int → Int → Int → Int → Int → Int → Option ((List (S73)) × Int)
  | 0, _, _, _, _, _, _, _, _, _, _ => none
  | k + 1, x2, x8, x9, x636000, x636001, x636002, x636003, x637000, x637001, x637002 => if x9 < (x2.length : Int) then (if 0 ≤ x9 then ((spec_l04Act.f k x636000 x636001 x636002 x636003 x637000 x637001 x637002 ((rd_T161 x2 x9).f0) ((rd_T161 x2 x9).f1)).bind fun bt641 => (if bt641.2.2.2 = 0 then (if x8.length < 5864062014805 then (spec_l04Do.l0 k x2 (x8 ++ [(⟨bt641.1, bt641.2.1, bt641.2.2.1⟩ : S73)]) (wrap64 (x9 + 1)) x636000 x636001 x636002 x636003 bt641.1 bt641.2.1 bt641.2.2.1) else (none)) else (some (x8, bt641.2.2.2)))) else (none)) else (some (x8, 0))
def spec_l04Do.f (k : Nat) (a0_0 : Int) (a0_1 : Int) (a0_2 : Int) (a0_3 : Int) (a1_0 : Int) (a1_1 : Int) (a1_2 : Int) (l2 : List (S161)) : Option ((List (S73)) × Int) := spec_l04Do.l0 k l2 (([(⟨a1_0, a1_1, a1_2⟩ : S73)] : List (S73))) 0 a0_0 a0_1 a0_2 a0_3 a1_0 a1_1 a1_2
theorem spec_l04Do.mono_l : ∀ k, (∀ y0 y1 y2 y3 y4 y5 y6 y7 y8 y9, LeO (spec_l04Do.l0 k y0 y1 y2 y3 y4 y5 y6 y7 y8 y9) (spec_l04Do.l0 (k + 1) y0 y1 y2 y3 y4 y5 y6 y7 y8 y9))
  | 0 => fun _ _ _ _ _ _ _ _ _ _ r h => by simp [spec_l04Do.l0] at h
  | k + 1 => by
    have ih0 := spec_l04Do.mono_l k
    · intro y0 y1 y2 y3 y4 y5 y6 y7 y8 y9
      unfold spec_l04Do.l0
      repeat' first
      | (with_reducible exact ih0 _ _ _ _ _ _ _ _ _ _)
      | (with_reducible exact spec_l04Act.mono _ _ _ _ _ _ _ _ _ _)
      | (with_reducible exact LeO.refl _)
      | (with_reducible exact LeO.none _)
      | (with_reducible refine LeO.ite ?_ ?_)
      | (with_reducible refine LeO.bind ?_ (fun _ => ?_))
      | exact ih0 _ _ _ _ _ _ _ _ _ _
      | exact spec_l04Act.mono _ _ _ _ _ _ _ _ _ _
      | exact LeO.none _
      | refine LeO.ite ?_ ?_
      | refine LeO.bind ?_ (fun _ => ?_)
theorem spec_l04Do.mono : ∀ a0 a1 a2 a3 a4 a5 a6 a7 k, LeO (spec_l04Do.f k a0 a1 a2 a3 a4 a5 a6 a7) (spec_l04Do.f (k + 1) a0 a1 a2 a3 a4 a5 a6 a7) := by
  intro a0 a1 a2 a3 a4 a5 a6 a7 k
  have ih0 := spec_l04Do.mono_l k
  unfold spec_l04Do.f
  repeat' first
      | (with_reducible exact ih0 _ _ _ _ _ _ _ _ _ _)
      | (with_reducible exact spec_l04Act.mono _ _ _ _ _ _ _ _ _ _)
      | (with_reducible exact LeO.refl _)
      | (with_reducible exact LeO.none _)
      | (with_reducible refine LeO.ite ?_ ?_)
      | (with_reducible refine LeO.bind ?_ (fun _ => ?_))
      | exact ih0 _ _ _ _ _ _ _ _ _ _
      | exact spec_l04Act.mono _ _ _ _ _ _ _ _ _ _
      | exact LeO.none _
      | refine LeO.ite ?_ ?_
      | refine LeO.bind ?_ (fun _ => ?_)
def spec_l04Do.T5 : Bool × List (List Nat × List Nat) := (true, [([], []), ([], []), ([], []), ([], []), ([2, 3], [2, 3]), ([4], [4]), ([0, 1, 5], [0, 1, 5]), ([6], [6]), ([7], [7]), ([7], [7]), ([], []), ([10, 8, 6, 0, 1, 2, 3, 4, 5, 6, 7, 8, 10], [8, 10]), ([9, 11, 0, 1, 2, 3, 4, 5, 6, 7, 8, 9, 10, 11], [9])])
def spec_l04Do.B5 : List Nat := [0, 0, 0, 0, 12, 28, 63, 127, 255, 255, 0, 1535, 4095]
theorem spec_l04Do.tab5 : rtab .any (opsOf Try.f143 5) = spec_l04Do.T5 := by kernel_rfl
theorem spec_l04Do.bits5 : waitsOk spec_l04Do.T5.2 spec_l04Do.B5 = true := by kernel_rfl
set_option maxHeartbeats 8000000 in
set_option maxRecDepth 100000 in
theorem spec_l04Do.calls (k : Nat) (a0_0 : Int) (a0_1 : Int) (a0_2 : Int) (a0_3 : Int) (a1_0 : Int) (a1_1 : Int) (a1_2 : Int) (A2 : Option Addr) (c2 : Nat) (l2 : List (S161)) (r1 : List (S73)) (r2 : Int) (w : World) (hr2 : Kd.C k161 w A2 l2.length l2) (hc2 : l2.length ≤ c2) (h : spec_l04Do.f k a0_0 a0_1 a0_2 a0_3 a1_0 a1_1 a1_2 l2 = some (r1, r2)) :
    Calls Try.prog 143 #[.agg #[.int .i64 a0_0, .int .i64 a0_1, .int .i8 a0_2, .int .i8 a0_3], .agg #[.int .i64 a1_0, .int .i64 a1_1, .int .i64 a1_2], .slice A2 l2.length c2] w fun e w' => ∃ v0_ : Value, e = .returned (.tuple #[v0_, .int .i64 r2]) ∧ Kd.R k73 73 w' w.heap.size (fun _ => True) v0_ r1 ∧ Below w.heap.size w w' := by
  have hu71 := Try.underlying71
  have hu73 := Try.underlying73
  have hu161 := Try.underlying161
  have HR2 := Aside0.mk hr2
  have HC2 := Aside0.mk hc2
  clear hr2 hc2
  have HB := Aside0.mk (Below.refl w.heap.size w)
  have H : (spec_l04Do.l0 k l2 (([(⟨a1_0, a1_1, a1_2⟩ : S73)] : List (S73))) 0 a0_0 a0_1 a0_2 a0_3 a1_0 a1_1 a1_2) = some (r1, r2) := h
  clear h
  obtain ⟨y637, hy637⟩ : ∃ y_ : List (S73), y_ = (([(⟨a1_0, a1_1, a1_2⟩ : S73)] : List (S73))) := ⟨_, rfl⟩
  replace H : (spec_l04Do.l0 k l2 y637 0 a0_0 a0_1 a0_2 a0_3 a1_0 a1_1 a1_2) = some (r1, r2) := by first | (rw [hy637]; with_reducible exact H) | (have H2_ := (Option.bind_some _ _).symm.trans H; rw [hy637]; with_reducible exact H2_) | (have H2_ := (Option.bind_some _ _).symm.trans H; with_reducible exact H2_) | with_reducible exact H | (rw [hy637]; exact H) | exact H
  have Ny637 := Aside0.mk hy637
  clear hy637
  have H' := Aside0.mk H
  clear H
  go_enter Try.func143, Try.ntmps143
  go_wp2_with (first | ((with_reducible refine gate_dst (N := 3) rfl ?_); refine box_event ?hg (N := 3) ?hd (cs := #[.int .i64 a0_0, .int .i64 a0_1, .int .i8 a0_2, .int .i8 a0_3]) (t := 71) ?hr ?_; (case hd => rfl); (case hg => rfl); (case hr => first | (go_simp; done) | (go_simp; rfl)); intro gb635 hg w4 hbox hb; have n0_ := Aside0.mk (below_step (by repeat (first | (with_reducible first | exact HB.out | apply below_alloc | apply pw_below_drewN | apply below_drew1) | exact HB.out)) hb); have n1_ := Aside0.mk (hbox); have n2_ := Aside0.mk ((by rw [hg]; exact (below_size (by repeat (first | (with_reducible first | exact HB.out | apply below_alloc | apply pw_below_drewN | apply below_drew1) | exact HB.out))) : w.heap.size ≤ gb635)); have n3_ := Aside0.mk ((by rw [hg]; exact (below_size (by repeat (first | (with_reducible first | exact HB.out | apply below_alloc | apply pw_below_drewN | apply below_drew1) | exact HB.out))) : w.heap.size ≤ gb635)); clear HB; have HB := n0_; have BK635 := n1_; have GW635 := n2_; have GE635 := n3_; clear n0_ n1_ n2_ n3_; clear hb hbox hg) | ((with_reducible refine gate_dst (N := 4) rfl ?_); refine box_event ?hg (N := 4) ?hd (cs := #[.int .i64 a1_0, .int .i64 a1_1, .int .i64 a1_2]) (t := 73) ?hr ?_; (case hd => rfl); (case hg => rfl); (case hr => first | (go_simp; done) | (go_simp; rfl)); intro gb636 hg w5 hbox hb; have n0_ := Aside0.mk (blk_below (g := gb635) (o := .cells #[.int .i64 a0_0, .int .i64 a0_1, .int .i8 a0_2, .int .i8 a0_3] 71 (0, 0)) (by (with_reducible repeat (first | refine blk_drewN ?_ _ | refine blk_drew ?_ | refine blk_alloc ?_ _)); exact BK635.out) hb); have n1_ := Aside0.mk (below_step (by repeat (first | (with_reducible first | exact HB.out | apply below_alloc | apply pw_below_drewN | apply below_drew1 | refine below_set ?_ GE635.out) | exact HB.out)) hb); have n2_ := Aside0.mk (hbox); have n3_ := Aside0.mk ((by rw [hg]; exact (below_size (by repeat (first | (with_reducible first | exact HB.out | apply below_alloc | apply pw_below_drewN | apply below_drew1 | refine below_set ?_ GE635.out) | exact HB.out))) : w.heap.size ≤ gb636)); have n4_ := Aside0.mk ((by rw [hg]; exact (below_size (by repeat (first | (with_reducible first | exact HB.out | apply below_alloc | apply pw_below_drewN | apply below_drew1 | refine below_set ?_ GE635.out) | exact HB.out))) : w.heap.size ≤ gb636)); have n5_ := Aside0.mk ((by rw [hg]; exact Nat.ne_of_lt (blk_lt (g := gb635) (o := .cells #[.int .i64 a0_0, .int .i64 a0_1, .int .i8 a0_2, .int .i8 a0_3] 71 (0, 0)) (by (with_reducible repeat (first | refine blk_drewN ?_ _ | refine blk_drew ?_ | refine blk_alloc ?_ _)); exact BK635.out)) : gb635 ≠ gb636)); have n6_ := Aside0.mk ((by rw [hg]; exact Nat.ne_of_gt (blk_lt (g := gb635) (o := .cells #[.int .i64 a0_0, .int .i64 a0_1, .int .i8 a0_2, .int .i8 a0_3] 71 (0, 0)) (by (with_reducible repeat (first | refine blk_drewN ?_ _ | refine blk_drew ?_ | refine blk_alloc ?_ _)); exact BK635.out)) : gb636 ≠ gb635)); clear BK635; clear HB; have BK635 := n0_; have HB := n1_; have BK636 := n2_; have GW636 := n3_; have GE636 := n4_; have NB635_636 := n5_; have NB636_635 := n6_; clear n0_ n1_ n2_ n3_ n4_ n5_ n6_; clear hb hbox hg; have hnb6 := NB636_635.out; have hnc6 := NB635_636.out; have hcz7_0 : w5.cell? ⟨gb636, 0, none⟩ = some (.int .i64 a1_0) := (blk_cell BK636.out 0).trans rfl; have hcz7_1 : w5.cell? ⟨gb636, 1, none⟩ = some (.int .i64 a1_1) := (blk_cell BK636.out 1).trans rfl; have hcz7_2 : w5.cell? ⟨gb636, 2, none⟩ = some (.int .i64 a1_2) := (blk_cell BK636.out 2).trans rfl; have hfz7_0 := blk_frozen BK636.out 0; have hfz7_1 := blk_frozen BK636.out 1; have hfz7_2 := blk_frozen BK636.out 2) | ((with_reducible refine gate_dst (N := 13) rfl ?_); refine Kd.R_lit k73 _ 73 ?hg (N := 13) ?hd (xs := ([(⟨a1_0, a1_1, a1_2⟩ : S73)] : List (S73))) (inner := [.int .i64 a1_0, .int .i64 a1_1, .int .i64 a1_2]) (ok := fun _ => True) (okp := fun _ => True) ?hr ?hp (fun _ hk => hk) trivial (Below.refl _ _) (Nat.le_refl _) (by simp) ?_; (case hd => rfl); (case hg => rfl); (case hr => first | (go_simp; done) | (go_simp; rfl)); (case hp => exact (Reps.c3 (show Kd.M k73 _ _ _ (⟨a1_0, a1_1, a1_2⟩ : S73) [.int .i64 a1_0, .int .i64 a1_1, .int .i64 a1_2] from (k73_mkM _ _ _ (⟨a1_0, a1_1, a1_2⟩ : S73) )) (Reps.none _ _))); intro v638 w8 ho9 hb hg_ hnew_; clear hg_ hnew_; (first | rw [← Ny637.out] at ho9 | (simp only [Int.reduceToNat] at ho9; rw [← Ny637.out] at ho9)); have n0_ := Aside0.mk (Kd.R_lower (Kd.R_newB ho9 (g := gb636) (o := .cells #[.int .i64 a1_0, .int .i64 a1_1, .int .i64 a1_2] 73 (0, 0)) (by (with_reducible repeat (first | refine blk_drewN ?_ _ | refine blk_drew ?_ | refine blk_alloc ?_ _)); exact BK636.out)) (below_size (by repeat (first | (with_reducible first | exact HB.out | apply below_alloc | apply pw_below_drewN | apply below_drew1 | refine below_set ?_ GE635.out | refine below_set ?_ GE636.out) | exact HB.out)))); have n1_ := Aside0.mk (blk_below (g := gb635) (o := .cells #[.int .i64 a0_0, .int .i64 a0_1, .int .i8 a0_2, .int .i8 a0_3] 71 (0, 0)) (by (with_reducible repeat (first | refine blk_drewN ?_ _ | refine blk_drew ?_ | refine blk_alloc ?_ _)); exact BK635.out) hb); have n2_ := Aside0.mk (blk_below (g := gb636) (o := .cells #[.int .i64 a1_0, .int .i64 a1_1, .int .i64 a1_2] 73 (0, 0)) (by (with_reducible repeat (first | refine blk_drewN ?_ _ | refine blk_drew ?_ | refine blk_alloc ?_ _)); exact BK636.out) hb); have n3_ := Aside0.mk (below_step (by repeat (first | (with_reducible first | exact HB.out | apply below_alloc | apply pw_below_drewN | apply below_drew1 | refine below_set ?_ GE635.out | refine below_set ?_ GE636.out) | exact HB.out)) hb); clear BK635; clear BK636; clear HB; have HO639 := n0_; have BK635 := n1_; have BK636 := n2_; have HB := n3_; clear n0_ n1_ n2_ n3_; clear hb ho9))
  go_loopg [8, 9] k (fun kq v8 v9 w' => ∃ (x8_1 : List (S73)) (x9_1 : Int) (x637000_1 : Int) (x637001_1 : Int) (x637002_1 : Int), v9 = .int .i64 x9_1 ∧ Aside0 (spec_l04Do.l0 kq l2 x8_1 x9_1 a0_0 a0_1 a0_2 a0_3 x637000_1 x637001_1 x637002_1 = some (r1, r2)) ∧ Aside0 (kq ≤ k) ∧ Aside0 (Kd.R k73 73 w' w.heap.size (fun k_ => k_ ≠ gb636) v8 x8_1) ∧ Aside0 (w'.heap[gb635]? = some (.cells #[.int .i64 a0_0, .int .i64 a0_1, .int .i8 a0_2, .int .i8 a0_3] 71 (0, 0))) ∧ Aside0 (w'.heap[gb636]? = some (.cells #[.int .i64 x637000_1, .int .i64 x637001_1, .int .i64 x637002_1] 73 (0, 0))) ∧ Aside0 (Below w.heap.size w w'))
  case atStart => exact ⟨(y637), (0), (a1_0), (a1_1), (a1_2), (by first | rfl | (simp; done) | (simp [*]; done)), H', ⟨Nat.le_refl _⟩, ⟨by (with_reducible repeat (first | apply Kd.R_alloc | apply Kd.R_drewN | apply Kd.R_drew)); exact Kd.R_mono HO639.out (fun _ hk => hk.2)⟩, ⟨by (with_reducible repeat (first | refine blk_drewN ?_ _ | refine blk_drew ?_ | refine blk_alloc ?_ _)); exact BK635.out⟩, ⟨by (with_reducible repeat (first | refine blk_drewN ?_ _ | refine blk_drew ?_ | refine blk_alloc ?_ _)); exact BK636.out⟩, ⟨by repeat (first | (with_reducible first | exact HB.out | apply below_alloc | apply pw_below_drewN | apply below_drew1 | refine below_set ?_ GE635.out | refine below_set ?_ GE636.out) | exact HB.out)⟩⟩
  case round =>
    clear H'
    try clear c1
    try clear c2
    try clear p2
    try clear c3
    try clear c6
    try clear hcz7_0
    try clear hcz7_1
    try clear hcz7_2
    try clear hfz7_0
    try clear hfz7_1
    try clear hfz7_2
    obtain ⟨x8_1, x9_1, x637000_1, x637001_1, x637002_1, rfl, HA, HK1, HO_8, BK635, BK636, HB⟩ := hrel
    cases gk with
    | zero => exact absurd HA.out (by simp [spec_l04Do.l0])
    | succ k1 =>
      have H := HA.out
      clear HA
      simp only [spec_l04Do.l0] at H
      by_cases c10 : x9_1 < (l2.length : Int)
      · rw [if_pos c10] at H
        have c10b0 : decide (x9_1 < (l2.length : Int)) = true := decide_eq_true c10
        clear c10
        by_cases c11 : 0 ≤ x9_1
        · rw [if_pos c11] at H
          have c11b0 : decide (0 ≤ x9_1) = true := decide_eq_true c11
          clear c11
          replace H := Option.bind_eq_some_iff.mp H
          obtain ⟨⟨t641, t642, t643, t644⟩, A120, H⟩ := H
          replace H : (if t644 = 0 then (if x8_1.length < 5864062014805 then (spec_l04Do.l0 k1 l2 (x8_1 ++ [(⟨t641, t642, t643⟩ : S73)]) (wrap64 (x9_1 + 1)) a0_0 a0_1 a0_2 a0_3 t641 t642 t643) else (none)) else (some (x8_1, t644))) = some (r1, r2) := H
          have A12 := Aside0.mk A120
          clear A120
          by_cases c13 : t644 = 0
          · rw [if_pos c13] at H
            have c13b0 : (t644 == 0) = true := beq_iff_eq.mpr c13
            have c13b1 : (t644 != 0) = false := bne_eq_false_iff_eq.mpr c13
            clear c13
            by_cases c14 : x8_1.length < 5864062014805
            · rw [if_pos c14] at H
              have LMc14 := Aside0.mk c14
              clear c14
              obtain ⟨y646, hy646⟩ : ∃ y_ : List (S73), y_ = (x8_1 ++ [(⟨t641, t642, t643⟩ : S73)]) := ⟨_, rfl⟩
              replace H : (spec_l04Do.l0 k1 l2 y646 (wrap64 (x9_1 + 1)) a0_0 a0_1 a0_2 a0_3 t641 t642 t643) = some (r1, r2) := by first | (rw [hy646]; with_reducible exact H) | (have H2_ := (Option.bind_some _ _).symm.trans H; rw [hy646]; with_reducible exact H2_) | (have H2_ := (Option.bind_some _ _).symm.trans H; with_reducible exact H2_) | with_reducible exact H | (rw [hy646]; exact H) | exact H
              have Ny646 := Aside0.mk hy646
              clear hy646
              have H' := Aside0.mk H
              clear H
              try go_wp2
              have n0_ := Aside0.mk (Kd.R_drew HO_8.out)
              have n1_ := Aside0.mk (blk_drew BK635.out)
              have n2_ := Aside0.mk (blk_drew BK636.out)
              have n3_ := Aside0.mk (below_drew1 HB.out)
              clear HO_8
              clear BK635
              clear BK636
              clear HB
              have HO_8 := n0_
              have BK635 := n1_
              have BK636 := n2_
              have HB := n3_
              clear n0_ n1_ n2_ n3_
              have p640 : 0 ≤ (x9_1 : Int) := of_decide_eq_true (by first | (with_reducible assumption) | assumption)
              have q640 : x9_1 < (l2.length : Int) := of_decide_eq_true (by first | (with_reducible assumption) | assumption)
              obtain ⟨ad640, e640, hx640_0, hx640_1⟩ := at_T161 HR2.out x9_1 p640 q640
              have hw640_1 := hx640_1
              have hw640_0 := hx640_0
              cases e640
              replace hx640_0 := (HB.out.cell (World.block_lt_of_cell? w _ hx640_0)).trans hx640_0
              replace hx640_1 := (HB.out.cell (World.block_lt_of_cell? w _ hx640_1)).trans hx640_1
              replace p640 := eq_true p640
              replace q640 := eq_true q640
              refine start_ (n := 13) (S := fun w' => w'.cell? ⟨gb635, 0, none⟩ = some (.int .i64 a0_0) ∧ w'.cell? ⟨gb635, 1, none⟩ = some (.int .i64 a0_1) ∧ w'.cell? ⟨gb635, 2, none⟩ = some (.int .i8 a0_2) ∧ w'.cell? ⟨gb635, 3, none⟩ = some (.int .i8 a0_3) ∧ w'.cell? ⟨gb636, 0, none⟩ = some (.int .i64 x637000_1) ∧ w'.cell? ⟨gb636, 1, none⟩ = some (.int .i64 x637001_1) ∧ w'.cell? ⟨gb636, 2, none⟩ = some (.int .i64 x637002_1) ∧ w'.cell? (ad640.add ((x9_1).toNat * 2)) = some (.int .i8 ((rd_T161 l2 x9_1).f0)) ∧ w'.cell? ⟨(ad640.add ((x9_1).toNat * 2)).block, (ad640.add ((x9_1).toNat * 2)).off + 1, none⟩ = some (.int .i64 ((rd_T161 l2 x9_1).f1))) (ds := []) #[false, false, false, false, false, false, false, false, false, false, false, false, false] (by kernel_rfl) rfl rfl ⟨(blk_cell BK635.out 0).trans rfl, (blk_cell BK635.out 1).trans rfl, (blk_cell BK635.out 2).trans rfl, (blk_cell BK635.out 3).trans rfl, (blk_cell BK636.out 0).trans rfl, (blk_cell BK636.out 1).trans rfl, (blk_cell BK636.out 2).trans rfl, ((HB.out.cell (World.block_lt_of_cell? w _ hw640_0)).trans hw640_0), ((HB.out.cell (World.block_lt_of_cell? w _ hw640_1)).trans hw640_1)⟩ (fun hHeld => ?_); refine with_tabW spec_l04Do.tab5 spec_l04Do.bits5 (fun HT_ HW_ => ?_)
              generalize wr.drew = w15 at HO_8 BK635 BK636 HB hx640_0 hx640_1 hHeld ⊢
              refine pure_ (i := 2) (N := some 23) (v := ?_) (a' := ?_) #[false, false, true, false, false, false, false, false, false, false, false, false, false] rfl rfl (any_of HT_.out (by kernel_rfl)) (fun _ _ _ h => h) (Or.inl ⟨by rfl, ?_⟩) ?_ ?_
              rotate_left
              · intro w'
                go_simp
                with_reducible rfl
              rotate_left
              · simp only [Act.put, List.setIfInBounds_toArray, List.set_cons_zero, List.set_cons_succ, i64_w, i32_w]
                rfl
              refine pure_ (i := 3) (N := some 24) (v := ?_) (a' := ?_) #[false, false, true, true, false, false, false, false, false, false, false, false, false] rfl rfl (any_of HT_.out (by kernel_rfl)) (fun _ _ _ h => h) (Or.inl ⟨by rfl, ?_⟩) ?_ ?_
              rotate_left
              · intro w'
                go_simp
                with_reducible rfl
              rotate_left
              · simp only [Act.put, List.setIfInBounds_toArray, List.set_cons_zero, List.set_cons_succ, i64_w, i32_w]
                rfl
              refine pure_ (i := 4) (N := some 25) (v := ?_) (a' := ?_) #[false, false, true, true, true, false, false, false, false, false, false, false, false] rfl rfl (any_of HT_.out (by kernel_rfl)) (fun _ _ _ h => h) (Or.inl ⟨by rfl, ?_⟩) ?_ ?_
              rotate_left
              · intro w'
                go_simp
                with_reducible rfl
              rotate_left
              · simp only [Act.put, List.setIfInBounds_toArray, List.set_cons_zero, List.set_cons_succ, i64_w, i32_w]
                rfl
              refine take_ (i := 0) (N := some 21) (v := ?_) (a' := ?_) #[true, false, true, true, true, false, false, false, false, false, false, false, false] rfl rfl (take_ofW HT_.out HW_.out (by kernel_rfl)) (fun _ _ _ h => h) (Or.inl ⟨by rfl, ?_⟩) hHeld ?_ ?_
              rotate_left
              · rintro w' ⟨s0, s1, s2, s3, s4, s5, s6, s7, s8⟩
                go_simp
                with_reducible rfl
              rotate_left
              · simp only [Act.put, List.setIfInBounds_toArray, List.set_cons_zero, List.set_cons_succ, i64_w, i32_w]
                rfl
              refine take_ (i := 1) (N := some 22) (v := ?_) (a' := ?_) #[true, true, true, true, true, false, false, false, false, false, false, false, false] rfl rfl (take_ofW HT_.out HW_.out (by kernel_rfl)) (fun _ _ _ h => h) (Or.inl ⟨by rfl, ?_⟩) hHeld ?_ ?_
              rotate_left
              · rintro w' ⟨s0, s1, s2, s3, s4, s5, s6, s7, s8⟩
                go_simp
                with_reducible rfl
              rotate_left
              · simp only [Act.put, List.setIfInBounds_toArray, List.set_cons_zero, List.set_cons_succ, i64_w, i32_w]
                rfl
              refine take_ (i := 5) (N := some 26) (v := ?_) (a' := ?_) #[true, true, true, true, true, true, false, false, false, false, false, false, false] rfl rfl (take_ofW HT_.out HW_.out (by kernel_rfl)) (fun _ _ _ h => h) (Or.inl ⟨by rfl, ?_⟩) hHeld ?_ ?_
              rotate_left
              · rintro w' ⟨s0, s1, s2, s3, s4, s5, s6, s7, s8⟩
                go_simp
                with_reducible rfl
              rotate_left
              · simp only [Act.put, List.setIfInBounds_toArray, List.set_cons_zero, List.set_cons_succ, i64_w, i32_w]
                rfl
              refine join_ (σ := Nat) 2 #[true, true, true, true, true, true, true, true, true, true, true, false, false] (fun s_ => [(27, .tuple #[.agg #[.int .i64 t641, .int .i64 t642, .int .i64 t643], .int .i64 t644]), (10, .pointer (some ⟨s_, 0, none⟩)), (20, .tuple #[.agg #[.int .i64 t641, .int .i64 t642, .int .i64 t643], .int .i64 t644]), (28, .agg #[.int .i64 t641, .int .i64 t642, .int .i64 t643]), (29, .int .i64 t644)]) (fun s_ w' => (w'.cell? ⟨gb635, 0, none⟩ = some (.int .i64 a0_0) ∧ w'.cell? ⟨gb635, 1, none⟩ = some (.int .i64 a0_1) ∧ w'.cell? ⟨gb635, 2, none⟩ = some (.int .i8 a0_2) ∧ w'.cell? ⟨gb635, 3, none⟩ = some (.int .i8 a0_3) ∧ w'.cell? ⟨gb636, 0, none⟩ = some (.int .i64 x637000_1) ∧ w'.cell? ⟨gb636, 1, none⟩ = some (.int .i64 x637001_1) ∧ w'.cell? ⟨gb636, 2, none⟩ = some (.int .i64 x637002_1) ∧ w'.cell? (ad640.add ((x9_1).toNat * 2)) = some (.int .i8 ((rd_T161 l2 x9_1).f0)) ∧ w'.cell? ⟨(ad640.add ((x9_1).toNat * 2)).block, (ad640.add ((x9_1).toNat * 2)).off + 1, none⟩ = some (.int .i64 ((rd_T161 l2 x9_1).f1))) ∧ (Kd.R k73 73 w' w.heap.size (fun k_ => k_ ≠ gb636 ∧ k_ ≠ s_) u8 x8_1) ∧ (w'.heap[gb635]? = some (.cells #[.int .i64 a0_0, .int .i64 a0_1, .int .i8 a0_2, .int .i8 a0_3] 71 (0, 0))) ∧ (w'.heap[gb636]? = some (.cells #[.int .i64 x637000_1, .int .i64 x637001_1, .int .i64 x637002_1] 73 (0, 0))) ∧ (w'.heap[s_]? = some (.cells #[.int .i64 0, .int .i64 0, .int .i64 0] 73 (0, 0))) ∧ (w.heap.size ≤ s_) ∧ (w.heap.size ≤ s_) ∧ (gb635 ≠ s_) ∧ (s_ ≠ gb635) ∧ (gb636 ≠ s_) ∧ (s_ ≠ gb636) ∧ (Below w.heap.size w w')) ?_ ?_
              rotate_left
              · intro hCont
                refine two_ (i := 6) (j := 10) (Ni := some 27) (Nj := some 10) #[true, true, true, true, true, true, true, false, false, false, false, false, false] #[true, true, true, true, true, true, false, false, false, false, true, false, false] rfl rfl rfl rfl (two_of HT_.out (by kernel_rfl)) (by decide) (by decide) (fun K hK => ?_) (fun K hK => ?_)
                · skip
                  refine goes_ Try.func185 (by kernel_rfl) rfl #[.agg #[.int .i64 a0_0, .int .i64 a0_1, .int .i8 a0_2, .int .i8 a0_3], .agg #[.int .i64 x637000_1, .int .i64 x637001_1, .int .i64 x637002_1], .agg #[.int .i8 ((rd_T161 l2 x9_1).f0), .int .i64 ((rd_T161 l2 x9_1).f1)]] (by rfl) rfl rfl (by (try simp only [List.map_toArray, List.map_cons, List.map_nil]); first | done | rfl | (simp only [List.length_drop, List.length_take]; rfl)) ?_
                  with_reducible refine (spec_l04Act.calls k1 a0_0 a0_1 a0_2 a0_3 x637000_1 x637001_1 x637002_1 ((rd_T161 l2 x9_1).f0) ((rd_T161 l2 x9_1).f1) t641 t642 t643 t644 _ A12.out).mono ?_
                  rintro e w16 ⟨rfl, hb⟩
                  refine ⟨_, rfl, ?_⟩
                  have n0_ := Aside0.mk (Kd.R_below (by (with_reducible repeat (first | apply Kd.R_alloc | apply Kd.R_drewN | apply Kd.R_drew)); exact HO_8.out) hb)
                  have n1_ := Aside0.mk (blk_below BK635.out hb)
                  have n2_ := Aside0.mk (blk_below BK636.out hb)
                  have n3_ := Aside0.mk (below_step HB.out hb)
                  clear HO_8
                  clear BK635
                  clear BK636
                  clear HB
                  have HO_8 := n0_
                  have BK635 := n1_
                  have BK636 := n2_
                  have HB := n3_
                  clear n0_ n1_ n2_ n3_
                  (try clear hb)
                  (try clear hb2)
                  (try clear hk)
                  (try clear hi)
                  refine hK.out _ _ ⟨(blk_cell BK635.out 0).trans rfl, (blk_cell BK635.out 1).trans rfl, (blk_cell BK635.out 2).trans rfl, (blk_cell BK635.out 3).trans rfl, (blk_cell BK636.out 0).trans rfl, (blk_cell BK636.out 1).trans rfl, (blk_cell BK636.out 2).trans rfl, ((HB.out.cell (World.block_lt_of_cell? w _ hw640_0)).trans hw640_0), ((HB.out.cell (World.block_lt_of_cell? w _ hw640_1)).trans hw640_1)⟩ (fun hHeld => ?_)
                  clear hK K
                  refine norm_ (a' := ?_) ?_ ?_
                  rotate_left
                  · show Act.put _ (some 27) _ = _
                    simp only [Act.put, List.setIfInBounds_toArray, List.set_cons_zero, List.set_cons_succ, i64_w, i32_w]
                    rfl
                  refine pure_ (i := 7) (N := some 20) (v := ?_) (a' := ?_) #[true, true, true, true, true, true, true, true, false, false, false, false, false] rfl rfl (any_of HT_.out (by kernel_rfl)) (fun _ _ _ h => h) (Or.inl ⟨by rfl, ?_⟩) ?_ ?_
                  rotate_left
                  · intro w'
                    go_simp
                    with_reducible rfl
                  rotate_left
                  · simp only [Act.put, List.setIfInBounds_toArray, List.set_cons_zero, List.set_cons_succ, i64_w, i32_w]
                    rfl
                  refine pure_ (i := 8) (N := some 28) (v := ?_) (a' := ?_) #[true, true, true, true, true, true, true, true, true, false, false, false, false] rfl rfl (any_of HT_.out (by kernel_rfl)) (fun _ _ _ h => h) (Or.inl ⟨by rfl, ?_⟩) ?_ ?_
                  rotate_left
                  · intro w'
                    go_simp
                    with_reducible rfl
                  rotate_left
                  · simp only [Act.put, List.setIfInBounds_toArray, List.set_cons_zero, List.set_cons_succ, i64_w, i32_w]
                    rfl
                  refine pure_ (i := 9) (N := some 29) (v := ?_) (a' := ?_) #[true, true, true, true, true, true, true, true, true, true, false, false, false] rfl rfl (any_of HT_.out (by kernel_rfl)) (fun _ _ _ h => h) (Or.inl ⟨by rfl, ?_⟩) ?_ ?_
                  rotate_left
                  · intro w'
                    go_simp
                    with_reducible rfl
                  rotate_left
                  · simp only [Act.put, List.setIfInBounds_toArray, List.set_cons_zero, List.set_cons_succ, i64_w, i32_w]
                    rfl
                  refine one_ (i := 10) (N := some 10) #[true, true, true, true, true, true, true, true, true, true, true, false, false] rfl rfl (one_of HT_.out (by kernel_rfl)) (by decide) (fun K hK => ?_)
                  refine box_step ?hg (N := 10) ?hd (cs := #[.int .i64 0, .int .i64 0, .int .i64 0]) (t := 73) ?hr ?_; (case hd => rfl); (case hg => rfl); (case hr => first | (go_simp; done) | (go_simp; rfl))
                  intro gb645 hg w17 hbox hb
                  have n0_ := Aside0.mk (Kd.R_below (Kd.R_elderB HO_8.out gb645 (Nat.le_of_eq hg.symm)) hb)
                  have n1_ := Aside0.mk (blk_below BK635.out hb)
                  have n2_ := Aside0.mk (blk_below BK636.out hb)
                  have n3_ := Aside0.mk (below_step HB.out hb)
                  have n4_ := Aside0.mk (hbox)
                  have n5_ := Aside0.mk ((by rw [hg]; exact (below_size HB.out) : w.heap.size ≤ gb645))
                  have n6_ := Aside0.mk ((by rw [hg]; exact (below_size HB.out) : w.heap.size ≤ gb645))
                  have n7_ := Aside0.mk ((by rw [hg]; exact Nat.ne_of_lt (blk_lt BK635.out) : gb635 ≠ gb645))
                  have n8_ := Aside0.mk ((by rw [hg]; exact Nat.ne_of_gt (blk_lt BK635.out) : gb645 ≠ gb635))
                  have n9_ := Aside0.mk ((by rw [hg]; exact Nat.ne_of_lt (blk_lt BK636.out) : gb636 ≠ gb645))
                  have n10_ := Aside0.mk ((by rw [hg]; exact Nat.ne_of_gt (blk_lt BK636.out) : gb645 ≠ gb636))
                  clear HO_8
                  clear BK635
                  clear BK636
                  clear HB
                  have HO_8 := n0_
                  have BK635 := n1_
                  have BK636 := n2_
                  have HB := n3_
                  have BK645 := n4_
                  have GW645 := n5_
                  have GE645 := n6_
                  have NB635_645 := n7_
                  have NB645_635 := n8_
                  have NB636_645 := n9_
                  have NB645_636 := n10_
                  clear n0_ n1_ n2_ n3_ n4_ n5_ n6_ n7_ n8_ n9_ n10_
                  clear hb hbox hg
                  refine hK.out _ _ ⟨(blk_cell BK635.out 0).trans rfl, (blk_cell BK635.out 1).trans rfl, (blk_cell BK635.out 2).trans rfl, (blk_cell BK635.out 3).trans rfl, (blk_cell BK636.out 0).trans rfl, (blk_cell BK636.out 1).trans rfl, (blk_cell BK636.out 2).trans rfl, ((HB.out.cell (World.block_lt_of_cell? w _ hw640_0)).trans hw640_0), ((HB.out.cell (World.block_lt_of_cell? w _ hw640_1)).trans hw640_1)⟩ (fun hHeld => ?_)
                  clear hK K
                  refine norm_ (a' := ?_) ?_ ?_
                  rotate_left
                  · show Act.put _ (some 10) _ = _
                    simp only [Act.put, List.setIfInBounds_toArray, List.set_cons_zero, List.set_cons_succ, i64_w, i32_w]
                    rfl
                  exact norm_ (by simp only [putAll, Act.put, List.setIfInBounds_toArray, List.set_cons_zero, List.set_cons_succ]) (hCont (gb645) _ ⟨hHeld, (by (with_reducible repeat (first | apply Kd.R_alloc | apply Kd.R_drewN | apply Kd.R_drew)); exact HO_8.out), (by (with_reducible repeat (first | refine blk_drewN ?_ _ | refine blk_drew ?_ | refine blk_alloc ?_ _)); exact BK635.out), (by (with_reducible repeat (first | refine blk_drewN ?_ _ | refine blk_drew ?_ | refine blk_alloc ?_ _)); exact BK636.out), (by (with_reducible repeat (first | refine blk_drewN ?_ _ | refine blk_drew ?_ | refine blk_alloc ?_ _)); exact BK645.out), GW645.out, GE645.out, NB635_645.out, NB645_635.out, NB636_645.out, NB645_636.out, (by repeat (first | (with_reducible first | exact HB.out | apply below_alloc | apply pw_below_drewN | apply below_drew1 | refine below_set ?_ GE635.out | refine below_set ?_ GE636.out | refine below_set ?_ GE645.out) | exact HB.out))⟩)
                · skip
                  refine box_step ?hg (N := 10) ?hd (cs := #[.int .i64 0, .int .i64 0, .int .i64 0]) (t := 73) ?hr ?_; (case hd => rfl); (case hg => rfl); (case hr => first | (go_simp; done) | (go_simp; rfl))
                  intro gb645 hg w16 hbox hb
                  have n0_ := Aside0.mk (Kd.R_below (Kd.R_elderB HO_8.out gb645 (Nat.le_of_eq hg.symm)) hb)
                  have n1_ := Aside0.mk (blk_below BK635.out hb)
                  have n2_ := Aside0.mk (blk_below BK636.out hb)
                  have n3_ := Aside0.mk (below_step HB.out hb)
                  have n4_ := Aside0.mk (hbox)
                  have n5_ := Aside0.mk ((by rw [hg]; exact (below_size HB.out) : w.heap.size ≤ gb645))
                  have n6_ := Aside0.mk ((by rw [hg]; exact (below_size HB.out) : w.heap.size ≤ gb645))
                  have n7_ := Aside0.mk ((by rw [hg]; exact Nat.ne_of_lt (blk_lt BK635.out) : gb635 ≠ gb645))
                  have n8_ := Aside0.mk ((by rw [hg]; exact Nat.ne_of_gt (blk_lt BK635.out) : gb645 ≠ gb635))
                  have n9_ := Aside0.mk ((by rw [hg]; exact Nat.ne_of_lt (blk_lt BK636.out) : gb636 ≠ gb645))
                  have n10_ := Aside0.mk ((by rw [hg]; exact Nat.ne_of_gt (blk_lt BK636.out) : gb645 ≠ gb636))
                  clear HO_8
                  clear BK635
                  clear BK636
                  clear HB
                  have HO_8 := n0_
                  have BK635 := n1_
                  have BK636 := n2_
                  have HB := n3_
                  have BK645 := n4_
                  have GW645 := n5_
                  have GE645 := n6_
                  have NB635_645 := n7_
                  have NB645_635 := n8_
                  have NB636_645 := n9_
                  have NB645_636 := n10_
                  clear n0_ n1_ n2_ n3_ n4_ n5_ n6_ n7_ n8_ n9_ n10_
                  clear hb hbox hg
                  refine hK.out _ _ ⟨(blk_cell BK635.out 0).trans rfl, (blk_cell BK635.out 1).trans rfl, (blk_cell BK635.out 2).trans rfl, (blk_cell BK635.out 3).trans rfl, (blk_cell BK636.out 0).trans rfl, (blk_cell BK636.out 1).trans rfl, (blk_cell BK636.out 2).trans rfl, ((HB.out.cell (World.block_lt_of_cell? w _ hw640_0)).trans hw640_0), ((HB.out.cell (World.block_lt_of_cell? w _ hw640_1)).trans hw640_1)⟩ (fun hHeld => ?_)
                  clear hK K
                  refine norm_ (a' := ?_) ?_ ?_
                  rotate_left
                  · show Act.put _ (some 10) _ = _
                    simp only [Act.put, List.setIfInBounds_toArray, List.set_cons_zero, List.set_cons_succ, i64_w, i32_w]
                    rfl
                  refine one_ (i := 6) (N := some 27) #[true, true, true, true, true, true, true, false, false, false, true, false, false] rfl rfl (one_of HT_.out (by kernel_rfl)) (by decide) (fun K hK => ?_)
                  refine goes_ Try.func185 (by kernel_rfl) rfl #[.agg #[.int .i64 a0_0, .int .i64 a0_1, .int .i8 a0_2, .int .i8 a0_3], .agg #[.int .i64 x637000_1, .int .i64 x637001_1, .int .i64 x637002_1], .agg #[.int .i8 ((rd_T161 l2 x9_1).f0), .int .i64 ((rd_T161 l2 x9_1).f1)]] (by rfl) rfl rfl (by (try simp only [List.map_toArray, List.map_cons, List.map_nil]); first | done | rfl | (simp only [List.length_drop, List.length_take]; rfl)) ?_
                  with_reducible refine (spec_l04Act.calls k1 a0_0 a0_1 a0_2 a0_3 x637000_1 x637001_1 x637002_1 ((rd_T161 l2 x9_1).f0) ((rd_T161 l2 x9_1).f1) t641 t642 t643 t644 _ A12.out).mono ?_
                  rintro e w17 ⟨rfl, hb⟩
                  refine ⟨_, rfl, ?_⟩
                  have n0_ := Aside0.mk (Kd.R_below (by (with_reducible repeat (first | apply Kd.R_alloc | apply Kd.R_drewN | apply Kd.R_drew)); exact HO_8.out) hb)
                  have n1_ := Aside0.mk (blk_below BK635.out hb)
                  have n2_ := Aside0.mk (blk_below BK636.out hb)
                  have n3_ := Aside0.mk (blk_below BK645.out hb)
                  have n4_ := Aside0.mk (below_step HB.out hb)
                  clear HO_8
                  clear BK635
                  clear BK636
                  clear BK645
                  clear HB
                  have HO_8 := n0_
                  have BK635 := n1_
                  have BK636 := n2_
                  have BK645 := n3_
                  have HB := n4_
                  clear n0_ n1_ n2_ n3_ n4_
                  (try clear hb)
                  (try clear hb2)
                  (try clear hk)
                  (try clear hi)
                  refine hK.out _ _ ⟨(blk_cell BK635.out 0).trans rfl, (blk_cell BK635.out 1).trans rfl, (blk_cell BK635.out 2).trans rfl, (blk_cell BK635.out 3).trans rfl, (blk_cell BK636.out 0).trans rfl, (blk_cell BK636.out 1).trans rfl, (blk_cell BK636.out 2).trans rfl, ((HB.out.cell (World.block_lt_of_cell? w _ hw640_0)).trans hw640_0), ((HB.out.cell (World.block_lt_of_cell? w _ hw640_1)).trans hw640_1)⟩ (fun hHeld => ?_)
                  clear hK K
                  refine norm_ (a' := ?_) ?_ ?_
                  rotate_left
                  · show Act.put _ (some 27) _ = _
                    simp only [Act.put, List.setIfInBounds_toArray, List.set_cons_zero, List.set_cons_succ, i64_w, i32_w]
                    rfl
                  refine pure_ (i := 7) (N := some 20) (v := ?_) (a' := ?_) #[true, true, true, true, true, true, true, true, false, false, true, false, false] rfl rfl (any_of HT_.out (by kernel_rfl)) (fun _ _ _ h => h) (Or.inl ⟨by rfl, ?_⟩) ?_ ?_
                  rotate_left
                  · intro w'
                    go_simp
                    with_reducible rfl
                  rotate_left
                  · simp only [Act.put, List.setIfInBounds_toArray, List.set_cons_zero, List.set_cons_succ, i64_w, i32_w]
                    rfl
                  refine pure_ (i := 8) (N := some 28) (v := ?_) (a' := ?_) #[true, true, true, true, true, true, true, true, true, false, true, false, false] rfl rfl (any_of HT_.out (by kernel_rfl)) (fun _ _ _ h => h) (Or.inl ⟨by rfl, ?_⟩) ?_ ?_
                  rotate_left
                  · intro w'
                    go_simp
                    with_reducible rfl
                  rotate_left
                  · simp only [Act.put, List.setIfInBounds_toArray, List.set_cons_zero, List.set_cons_succ, i64_w, i32_w]
                    rfl
                  refine pure_ (i := 9) (N := some 29) (v := ?_) (a' := ?_) #[true, true, true, true, true, true, true, true, true, true, true, false, false] rfl rfl (any_of HT_.out (by kernel_rfl)) (fun _ _ _ h => h) (Or.inl ⟨by rfl, ?_⟩) ?_ ?_
                  rotate_left
                  · intro w'
                    go_simp
                    with_reducible rfl
                  rotate_left
                  · simp only [Act.put, List.setIfInBounds_toArray, List.set_cons_zero, List.set_cons_succ, i64_w, i32_w]
                    rfl
                  exact norm_ (by simp only [putAll, Act.put, List.setIfInBounds_toArray, List.set_cons_zero, List.set_cons_succ]) (hCont (gb645) _ ⟨hHeld, (by (with_reducible repeat (first | apply Kd.R_alloc | apply Kd.R_drewN | apply Kd.R_drew)); exact HO_8.out), (by (with_reducible repeat (first | refine blk_drewN ?_ _ | refine blk_drew ?_ | refine blk_alloc ?_ _)); exact BK635.out), (by (with_reducible repeat (first | refine blk_drewN ?_ _ | refine blk_drew ?_ | refine blk_alloc ?_ _)); exact BK636.out), (by (with_reducible repeat (first | refine blk_drewN ?_ _ | refine blk_drew ?_ | refine blk_alloc ?_ _)); exact BK645.out), GW645.out, GE645.out, NB635_645.out, NB645_635.out, NB636_645.out, NB645_636.out, (by repeat (first | (with_reducible first | exact HB.out | apply below_alloc | apply pw_below_drewN | apply below_drew1 | refine below_set ?_ GE635.out | refine below_set ?_ GE636.out | refine below_set ?_ GE645.out) | exact HB.out))⟩)
              rintro gb645 w18 ⟨hS_, h0_, h1_, h2_, h3_, h4_, h5_, h6_, h7_, h8_, h9_, h10_⟩
              have n0_ : Aside0 (Kd.R k73 73 w18 w.heap.size (fun k_ => k_ ≠ gb636 ∧ k_ ≠ gb645) u8 x8_1) := ⟨h0_⟩
              have n1_ : Aside0 (w18.heap[gb635]? = some (.cells #[.int .i64 a0_0, .int .i64 a0_1, .int .i8 a0_2, .int .i8 a0_3] 71 (0, 0))) := ⟨h1_⟩
              have n2_ : Aside0 (w18.heap[gb636]? = some (.cells #[.int .i64 x637000_1, .int .i64 x637001_1, .int .i64 x637002_1] 73 (0, 0))) := ⟨h2_⟩
              have n3_ : Aside0 (w18.heap[gb645]? = some (.cells #[.int .i64 0, .int .i64 0, .int .i64 0] 73 (0, 0))) := ⟨h3_⟩
              have n4_ : Aside0 (w.heap.size ≤ gb645) := ⟨h4_⟩
              have n5_ : Aside0 (w.heap.size ≤ gb645) := ⟨h5_⟩
              have n6_ : Aside0 (gb635 ≠ gb645) := ⟨h6_⟩
              have n7_ : Aside0 (gb645 ≠ gb635) := ⟨h7_⟩
              have n8_ : Aside0 (gb636 ≠ gb645) := ⟨h8_⟩
              have n9_ : Aside0 (gb645 ≠ gb636) := ⟨h9_⟩
              have n10_ : Aside0 (Below w.heap.size w w18) := ⟨h10_⟩
              clear HO_8
              clear BK635
              clear BK636
              clear HB
              clear h0_ h1_ h2_ h3_ h4_ h5_ h6_ h7_ h8_ h9_ h10_
              have HO_8 := n0_
              have BK635 := n1_
              have BK636 := n2_
              have BK645 := n3_
              have GW645 := n4_
              have GE645 := n5_
              have NB635_645 := n6_
              have NB645_635 := n7_
              have NB636_645 := n8_
              have NB645_636 := n9_
              have HB := n10_
              clear n0_ n1_ n2_ n3_ n4_ n5_ n6_ n7_ n8_ n9_ n10_
              have hHeld : w18.cell? ⟨gb635, 0, none⟩ = some (.int .i64 a0_0) ∧ w18.cell? ⟨gb635, 1, none⟩ = some (.int .i64 a0_1) ∧ w18.cell? ⟨gb635, 2, none⟩ = some (.int .i8 a0_2) ∧ w18.cell? ⟨gb635, 3, none⟩ = some (.int .i8 a0_3) ∧ w18.cell? ⟨gb636, 0, none⟩ = some (.int .i64 x637000_1) ∧ w18.cell? ⟨gb636, 1, none⟩ = some (.int .i64 x637001_1) ∧ w18.cell? ⟨gb636, 2, none⟩ = some (.int .i64 x637002_1) ∧ w18.cell? (ad640.add ((x9_1).toNat * 2)) = some (.int .i8 ((rd_T161 l2 x9_1).f0)) ∧ w18.cell? ⟨(ad640.add ((x9_1).toNat * 2)).block, (ad640.add ((x9_1).toNat * 2)).off + 1, none⟩ = some (.int .i64 ((rd_T161 l2 x9_1).f1)) := hS_
              refine norm_ (a' := ?_) ?_ ?_
              rotate_left
              · simp only [putAll, Act.put, List.setIfInBounds_toArray, List.set_cons_zero, List.set_cons_succ]
                rfl
              refine one_ (i := 11) (N := none) #[true, true, true, true, true, true, true, true, true, true, true, true, false] rfl rfl (one_of HT_.out (by kernel_rfl)) (by decide) (fun K hK => ?_)
              have hs19 : w18.cell? ⟨gb645, 0, none⟩ = some (.int .i64 0) := (blk_cell BK645.out 0).trans rfl
              have hfs19 := blk_frozen BK645.out 0
              have hns19_0 := NB635_645.out
              have hns19_1 := NB636_645.out
              have hms19_0 := NB645_635.out
              have hms19_1 := NB645_636.out
              have hs20 : w18.cell? ⟨gb645, 1, none⟩ = some (.int .i64 0) := (blk_cell BK645.out 1).trans rfl
              have hfs20 := blk_frozen BK645.out 1
              have hns20_0 := NB635_645.out
              have hns20_1 := NB636_645.out
              have hms20_0 := NB645_635.out
              have hms20_1 := NB645_636.out
              have hs21 : w18.cell? ⟨gb645, 2, none⟩ = some (.int .i64 0) := (blk_cell BK645.out 2).trans rfl
              have hfs21 := blk_frozen BK645.out 2
              have hns21_0 := NB635_645.out
              have hns21_1 := NB636_645.out
              have hms21_0 := NB645_635.out
              have hms21_1 := NB645_636.out
              refine skip_ (w1 := ?_) (by rfl) rfl ?_ ?_
              rotate_left
              · go_simp
                rfl
              refine hK.out _ _ ⟨((cell_far (p := ⟨gb645, _, none⟩) NB635_645.out _).trans (((cell_far (p := ⟨gb645, _, none⟩) NB635_645.out _).trans (((cell_far (p := ⟨gb645, _, none⟩) NB635_645.out _).trans (hHeld.1)))))), ((cell_far (p := ⟨gb645, _, none⟩) NB635_645.out _).trans (((cell_far (p := ⟨gb645, _, none⟩) NB635_645.out _).trans (((cell_far (p := ⟨gb645, _, none⟩) NB635_645.out _).trans (hHeld.2.1)))))), ((cell_far (p := ⟨gb645, _, none⟩) NB635_645.out _).trans (((cell_far (p := ⟨gb645, _, none⟩) NB635_645.out _).trans (((cell_far (p := ⟨gb645, _, none⟩) NB635_645.out _).trans (hHeld.2.2.1)))))), ((cell_far (p := ⟨gb645, _, none⟩) NB635_645.out _).trans (((cell_far (p := ⟨gb645, _, none⟩) NB635_645.out _).trans (((cell_far (p := ⟨gb645, _, none⟩) NB635_645.out _).trans (hHeld.2.2.2.1)))))), ((cell_far (p := ⟨gb645, _, none⟩) NB636_645.out _).trans (((cell_far (p := ⟨gb645, _, none⟩) NB636_645.out _).trans (((cell_far (p := ⟨gb645, _, none⟩) NB636_645.out _).trans (hHeld.2.2.2.2.1)))))), ((cell_far (p := ⟨gb645, _, none⟩) NB636_645.out _).trans (((cell_far (p := ⟨gb645, _, none⟩) NB636_645.out _).trans (((cell_far (p := ⟨gb645, _, none⟩) NB636_645.out _).trans (hHeld.2.2.2.2.2.1)))))), ((cell_far (p := ⟨gb645, _, none⟩) NB636_645.out _).trans (((cell_far (p := ⟨gb645, _, none⟩) NB636_645.out _).trans (((cell_far (p := ⟨gb645, _, none⟩) NB636_645.out _).trans (hHeld.2.2.2.2.2.2.1)))))), ((cell_far (p := ⟨gb645, _, none⟩) (by first | exact Nat.ne_of_lt (Nat.lt_of_lt_of_le (by have := World.block_lt_of_cell? _ _ hw640_0; first | rwa [add_block] at this | exact this) GW645.out) | (rw [add_block]; exact Nat.ne_of_lt (Nat.lt_of_lt_of_le (by have := World.block_lt_of_cell? _ _ hw640_0; first | rwa [add_block] at this | exact this) GW645.out)) | (show (Addr.add _ _).block ≠ _; rw [add_block]; exact Nat.ne_of_lt (Nat.lt_of_lt_of_le (by have := World.block_lt_of_cell? _ _ hw640_0; first | rwa [add_block] at this | exact this) GW645.out)) | (dsimp only; exact Nat.ne_of_lt (Nat.lt_of_lt_of_le (by have := World.block_lt_of_cell? _ _ hw640_0; first | rwa [add_block] at this | exact this) GW645.out))) _).trans (((cell_far (p := ⟨gb645, _, none⟩) (by first | exact Nat.ne_of_lt (Nat.lt_of_lt_of_le (by have := World.block_lt_of_cell? _ _ hw640_0; first | rwa [add_block] at this | exact this) GW645.out) | (rw [add_block]; exact Nat.ne_of_lt (Nat.lt_of_lt_of_le (by have := World.block_lt_of_cell? _ _ hw640_0; first | rwa [add_block] at this | exact this) GW645.out)) | (show (Addr.add _ _).block ≠ _; rw [add_block]; exact Nat.ne_of_lt (Nat.lt_of_lt_of_le (by have := World.block_lt_of_cell? _ _ hw640_0; first | rwa [add_block] at this | exact this) GW645.out)) | (dsimp only; exact Nat.ne_of_lt (Nat.lt_of_lt_of_le (by have := World.block_lt_of_cell? _ _ hw640_0; first | rwa [add_block] at this | exact this) GW645.out))) _).trans (((cell_far (p := ⟨gb645, _, none⟩) (by first | exact Nat.ne_of_lt (Nat.lt_of_lt_of_le (by have := World.block_lt_of_cell? _ _ hw640_0; first | rwa [add_block] at this | exact this) GW645.out) | (rw [add_block]; exact Nat.ne_of_lt (Nat.lt_of_lt_of_le (by have := World.block_lt_of_cell? _ _ hw640_0; first | rwa [add_block] at this | exact this) GW645.out)) | (show (Addr.add _ _).block ≠ _; rw [add_block]; exact Nat.ne_of_lt (Nat.lt_of_lt_of_le (by have := World.block_lt_of_cell? _ _ hw640_0; first | rwa [add_block] at this | exact this) GW645.out)) | (dsimp only; exact Nat.ne_of_lt (Nat.lt_of_lt_of_le (by have := World.block_lt_of_cell? _ _ hw640_0; first | rwa [add_block] at this | exact this) GW645.out))) _).trans (hHeld.2.2.2.2.2.2.2.1)))))), ((cell_far (p := ⟨gb645, _, none⟩) (by first | exact Nat.ne_of_lt (Nat.lt_of_lt_of_le (by have := World.block_lt_of_cell? _ _ hw640_1; first | rwa [add_block] at this | exact this) GW645.out) | (rw [add_block]; exact Nat.ne_of_lt (Nat.lt_of_lt_of_le (by have := World.block_lt_of_cell? _ _ hw640_1; first | rwa [add_block] at this | exact this) GW645.out)) | (show (Addr.add _ _).block ≠ _; rw [add_block]; exact Nat.ne_of_lt (Nat.lt_of_lt_of_le (by have := World.block_lt_of_cell? _ _ hw640_1; first | rwa [add_block] at this | exact this) GW645.out)) | (dsimp only; exact Nat.ne_of_lt (Nat.lt_of_lt_of_le (by have := World.block_lt_of_cell? _ _ hw640_1; first | rwa [add_block] at this | exact this) GW645.out))) _).trans (((cell_far (p := ⟨gb645, _, none⟩) (by first | exact Nat.ne_of_lt (Nat.lt_of_lt_of_le (by have := World.block_lt_of_cell? _ _ hw640_1; first | rwa [add_block] at this | exact this) GW645.out) | (rw [add_block]; exact Nat.ne_of_lt (Nat.lt_of_lt_of_le (by have := World.block_lt_of_cell? _ _ hw640_1; first | rwa [add_block] at this | exact this) GW645.out)) | (show (Addr.add _ _).block ≠ _; rw [add_block]; exact Nat.ne_of_lt (Nat.lt_of_lt_of_le (by have := World.block_lt_of_cell? _ _ hw640_1; first | rwa [add_block] at this | exact this) GW645.out)) | (dsimp only; exact Nat.ne_of_lt (Nat.lt_of_lt_of_le (by have := World.block_lt_of_cell? _ _ hw640_1; first | rwa [add_block] at this | exact this) GW645.out))) _).trans (((cell_far (p := ⟨gb645, _, none⟩) (by first | exact Nat.ne_of_lt (Nat.lt_of_lt_of_le (by have := World.block_lt_of_cell? _ _ hw640_1; first | rwa [add_block] at this | exact this) GW645.out) | (rw [add_block]; exact Nat.ne_of_lt (Nat.lt_of_lt_of_le (by have := World.block_lt_of_cell? _ _ hw640_1; first | rwa [add_block] at this | exact this) GW645.out)) | (show (Addr.add _ _).block ≠ _; rw [add_block]; exact Nat.ne_of_lt (Nat.lt_of_lt_of_le (by have := World.block_lt_of_cell? _ _ hw640_1; first | rwa [add_block] at this | exact this) GW645.out)) | (dsimp only; exact Nat.ne_of_lt (Nat.lt_of_lt_of_le (by have := World.block_lt_of_cell? _ _ hw640_1; first | rwa [add_block] at this | exact this) GW645.out))) _).trans (hHeld.2.2.2.2.2.2.2.2))))))⟩ (fun hHeld => ?_)
              clear hK K
              refine pure_ (i := 12) (N := some 11) (v := ?_) (a' := ?_) #[true, true, true, true, true, true, true, true, true, true, true, true, true] rfl rfl (any_of HT_.out (by kernel_rfl)) (fun _ _ _ h => h) (Or.inl ⟨by rfl, ?_⟩) ?_ ?_
              rotate_left
              · intro w'
                go_simp
                with_reducible rfl
              rotate_left
              · simp only [Act.put, List.setIfInBounds_toArray, List.set_cons_zero, List.set_cons_succ, i64_w, i32_w]
                rfl
              refine done_ (done_of HT_.out (by kernel_rfl)) ?_
              have hnb22 := NB645_635.out
              have hnc22 := NB635_645.out
              have hnb23 := NB645_636.out
              have hnc23 := NB636_645.out
              have hcz24_0 : w18.cell? ⟨gb645, 0, none⟩ = some (.int .i64 0) := (blk_cell BK645.out 0).trans rfl
              have hcz24_1 : w18.cell? ⟨gb645, 1, none⟩ = some (.int .i64 0) := (blk_cell BK645.out 1).trans rfl
              have hcz24_2 : w18.cell? ⟨gb645, 2, none⟩ = some (.int .i64 0) := (blk_cell BK645.out 2).trans rfl
              have hfz24_0 := blk_frozen BK645.out 0
              have hfz24_1 := blk_frozen BK645.out 1
              have hfz24_2 := blk_frozen BK645.out 2
              have hnb25 := NB636_635.out
              have hnc25 := NB635_636.out
              have hcz26_0 : w18.cell? ⟨gb636, 0, none⟩ = some (.int .i64 x637000_1) := (blk_cell BK636.out 0).trans rfl
              have hcz26_1 : w18.cell? ⟨gb636, 1, none⟩ = some (.int .i64 x637001_1) := (blk_cell BK636.out 1).trans rfl
              have hcz26_2 : w18.cell? ⟨gb636, 2, none⟩ = some (.int .i64 x637002_1) := (blk_cell BK636.out 2).trans rfl
              have hfz26_0 := blk_frozen BK636.out 0
              have hfz26_1 := blk_frozen BK636.out 1
              have hfz26_2 := blk_frozen BK636.out 2
              try go_wp2_with (first | ((with_reducible refine gate_builtin (b := .append) (xs := #[.tmp 35, .tmp 37]) rfl ?_); at_builtin; refine Kd.R_append k73 (w0 := w) w.heap.size rfl (.tmp 35) (.tmp 37) 157 73 (.agg #[(.int .i64 0), (.int .i64 0), (.int .i64 0)]) 24 rfl Try.underlying157 info73 rfl (by decide) (by omega) u8 x8_1 (⟨t641, t642, t643⟩ : S73) [.int .i64 t641, .int .i64 t642, .int .i64 t643] (fun k_ => k_ ≠ gb636 ∧ k_ ≠ gb645) (fun _ => False) rfl (by first | (go_simp; done) | (go_simp; rfl)) ?aP (fun _ hk => hk.elim) ?aF ?aO ?aB ?aS ?aL ?_; (case aP => exact k73_mkM _ _ _ (⟨t641, t642, t643⟩ : S73)); (case aB => exact (by repeat (first | (with_reducible first | exact HB.out | apply below_alloc | apply pw_below_drewN | apply below_drew1 | refine below_set ?_ GE635.out | refine below_set ?_ GE636.out | refine below_set ?_ GE645.out) | exact HB.out))); (case aF => exact (fun k_ hk => ⟨Kd.freshB (g := gb636) (o := .cells #[.int .i64 t641, .int .i64 t642, .int .i64 t643] 73 (0, 0)) (by (with_reducible repeat (first | refine blk_drewN ?_ _ | refine blk_drew ?_ | refine blk_alloc ?_ _)); refine blk_put (cs := #[.int .i64 t641, .int .i64 t642, .int .i64 x637002_1]) ?_ 2 _ rfl; (with_reducible repeat (first | refine blk_drewN ?_ _ | refine blk_drew ?_ | refine blk_alloc ?_ _)); refine blk_put (cs := #[.int .i64 t641, .int .i64 x637001_1, .int .i64 x637002_1]) ?_ 1 _ rfl; (with_reducible repeat (first | refine blk_drewN ?_ _ | refine blk_drew ?_ | refine blk_alloc ?_ _)); refine blk_put (cs := #[.int .i64 x637000_1, .int .i64 x637001_1, .int .i64 x637002_1]) ?_ 0 _ rfl; (with_reducible repeat (first | refine blk_drewN ?_ _ | refine blk_drew ?_ | refine blk_alloc ?_ _)); refine blk_far ?_ NB636_645.out _; (with_reducible repeat (first | refine blk_drewN ?_ _ | refine blk_drew ?_ | refine blk_alloc ?_ _)); refine blk_far ?_ NB636_645.out _; (with_reducible repeat (first | refine blk_drewN ?_ _ | refine blk_drew ?_ | refine blk_alloc ?_ _)); refine blk_far ?_ NB636_645.out _; (with_reducible repeat (first | refine blk_drewN ?_ _ | refine blk_drew ?_ | refine blk_alloc ?_ _)); exact BK636.out) k_ hk, Kd.freshB (g := gb645) (o := .cells #[.int .i64 t641, .int .i64 t642, .int .i64 t643] 73 (0, 0)) (by (with_reducible repeat (first | refine blk_drewN ?_ _ | refine blk_drew ?_ | refine blk_alloc ?_ _)); refine blk_far ?_ NB645_636.out _; (with_reducible repeat (first | refine blk_drewN ?_ _ | refine blk_drew ?_ | refine blk_alloc ?_ _)); refine blk_far ?_ NB645_636.out _; (with_reducible repeat (first | refine blk_drewN ?_ _ | refine blk_drew ?_ | refine blk_alloc ?_ _)); refine blk_far ?_ NB645_636.out _; (with_reducible repeat (first | refine blk_drewN ?_ _ | refine blk_drew ?_ | refine blk_alloc ?_ _)); refine blk_put (cs := #[.int .i64 t641, .int .i64 t642, .int .i64 0]) ?_ 2 _ rfl; (with_reducible repeat (first | refine blk_drewN ?_ _ | refine blk_drew ?_ | refine blk_alloc ?_ _)); refine blk_put (cs := #[.int .i64 t641, .int .i64 0, .int .i64 0]) ?_ 1 _ rfl; (with_reducible repeat (first | refine blk_drewN ?_ _ | refine blk_drew ?_ | refine blk_alloc ?_ _)); refine blk_put (cs := #[.int .i64 0, .int .i64 0, .int .i64 0]) ?_ 0 _ rfl; (with_reducible repeat (first | refine blk_drewN ?_ _ | refine blk_drew ?_ | refine blk_alloc ?_ _)); exact BK645.out) k_ hk⟩)); (case aO => exact (by (with_reducible repeat (first | apply Kd.R_alloc | apply Kd.R_drewN | apply Kd.R_drew)); exact Kd.R_mono (Kd.R_far (p := ⟨gb636, 2, none⟩) (Kd.R_far (p := ⟨gb636, 1, none⟩) (Kd.R_far (p := ⟨gb636, 0, none⟩) (Kd.R_far (p := ⟨gb645, 2, none⟩) (Kd.R_far (p := ⟨gb645, 1, none⟩) (Kd.R_far (p := ⟨gb645, 0, none⟩) (Kd.R_mono (Kd.R_mono HO_8.out (fun k_ hk => (⟨hk, hk.2⟩ : _ ∧ k_ ≠ gb645))) (fun k_ hk => (⟨hk, hk.1.1⟩ : _ ∧ k_ ≠ gb636))) (fun _ hk => hk.1.2) (.int .i64 t641)) (fun _ hk => hk.1.2) (.int .i64 t642)) (fun _ hk => hk.1.2) (.int .i64 t643)) (fun _ hk => hk.2) (.int .i64 t641)) (fun _ hk => hk.2) (.int .i64 t642)) (fun _ hk => hk.2) (.int .i64 t643)) (fun _ hk => ⟨hk.1.1.1, hk.1.1.2⟩))); (case aS => exact (below_size (by repeat (first | (with_reducible first | exact HB.out | apply below_alloc | apply pw_below_drewN | apply below_drew1 | refine below_set ?_ GE635.out | refine below_set ?_ GE636.out | refine below_set ?_ GE645.out) | exact HB.out)))); (case aL => have := LMc14.out; omega); intro v647 w27 ho hb hg hat; rw [← Ny646.out] at ho; have n0_ := Aside0.mk (blk_grown (g := gb635) (o := .cells #[.int .i64 a0_0, .int .i64 a0_1, .int .i8 a0_2, .int .i8 a0_3] 71 (0, 0)) (by (with_reducible repeat (first | refine blk_drewN ?_ _ | refine blk_drew ?_ | refine blk_alloc ?_ _)); refine blk_far ?_ NB635_636.out _; (with_reducible repeat (first | refine blk_drewN ?_ _ | refine blk_drew ?_ | refine blk_alloc ?_ _)); refine blk_far ?_ NB635_636.out _; (with_reducible repeat (first | refine blk_drewN ?_ _ | refine blk_drew ?_ | refine blk_alloc ?_ _)); refine blk_far ?_ NB635_636.out _; (with_reducible repeat (first | refine blk_drewN ?_ _ | refine blk_drew ?_ | refine blk_alloc ?_ _)); refine blk_far ?_ NB635_645.out _; (with_reducible repeat (first | refine blk_drewN ?_ _ | refine blk_drew ?_ | refine blk_alloc ?_ _)); refine blk_far ?_ NB635_645.out _; (with_reducible repeat (first | refine blk_drewN ?_ _ | refine blk_drew ?_ | refine blk_alloc ?_ _)); refine blk_far ?_ NB635_645.out _; (with_reducible repeat (first | refine blk_drewN ?_ _ | refine blk_drew ?_ | refine blk_alloc ?_ _)); exact BK635.out) hg (Kd.R_ne HO_8.out BK635.out (by decide))); have n1_ := Aside0.mk (blk_grown (g := gb636) (o := .cells #[.int .i64 t641, .int .i64 t642, .int .i64 t643] 73 (0, 0)) (by (with_reducible repeat (first | refine blk_drewN ?_ _ | refine blk_drew ?_ | refine blk_alloc ?_ _)); refine blk_put (cs := #[.int .i64 t641, .int .i64 t642, .int .i64 x637002_1]) ?_ 2 _ rfl; (with_reducible repeat (first | refine blk_drewN ?_ _ | refine blk_drew ?_ | refine blk_alloc ?_ _)); refine blk_put (cs := #[.int .i64 t641, .int .i64 x637001_1, .int .i64 x637002_1]) ?_ 1 _ rfl; (with_reducible repeat (first | refine blk_drewN ?_ _ | refine blk_drew ?_ | refine blk_alloc ?_ _)); refine blk_put (cs := #[.int .i64 x637000_1, .int .i64 x637001_1, .int .i64 x637002_1]) ?_ 0 _ rfl; (with_reducible repeat (first | refine blk_drewN ?_ _ | refine blk_drew ?_ | refine blk_alloc ?_ _)); refine blk_far ?_ NB636_645.out _; (with_reducible repeat (first | refine blk_drewN ?_ _ | refine blk_drew ?_ | refine blk_alloc ?_ _)); refine blk_far ?_ NB636_645.out _; (with_reducible repeat (first | refine blk_drewN ?_ _ | refine blk_drew ?_ | refine blk_alloc ?_ _)); refine blk_far ?_ NB636_645.out _; (with_reducible repeat (first | refine blk_drewN ?_ _ | refine blk_drew ?_ | refine blk_alloc ?_ _)); exact BK636.out) hg (Kd.R_away HO_8.out (fun _ hk => hk.1))); have n2_ := Aside0.mk (blk_grown (g := gb645) (o := .cells #[.int .i64 t641, .int .i64 t642, .int .i64 t643] 73 (0, 0)) (by (with_reducible repeat (first | refine blk_drewN ?_ _ | refine blk_drew ?_ | refine blk_alloc ?_ _)); refine blk_far ?_ NB645_636.out _; (with_reducible repeat (first | refine blk_drewN ?_ _ | refine blk_drew ?_ | refine blk_alloc ?_ _)); refine blk_far ?_ NB645_636.out _; (with_reducible repeat (first | refine blk_drewN ?_ _ | refine blk_drew ?_ | refine blk_alloc ?_ _)); refine blk_far ?_ NB645_636.out _; (with_reducible repeat (first | refine blk_drewN ?_ _ | refine blk_drew ?_ | refine blk_alloc ?_ _)); refine blk_put (cs := #[.int .i64 t641, .int .i64 t642, .int .i64 0]) ?_ 2 _ rfl; (with_reducible repeat (first | refine blk_drewN ?_ _ | refine blk_drew ?_ | refine blk_alloc ?_ _)); refine blk_put (cs := #[.int .i64 t641, .int .i64 0, .int .i64 0]) ?_ 1 _ rfl; (with_reducible repeat (first | refine blk_drewN ?_ _ | refine blk_drew ?_ | refine blk_alloc ?_ _)); refine blk_put (cs := #[.int .i64 0, .int .i64 0, .int .i64 0]) ?_ 0 _ rfl; (with_reducible repeat (first | refine blk_drewN ?_ _ | refine blk_drew ?_ | refine blk_alloc ?_ _)); exact BK645.out) hg (Kd.R_away HO_8.out (fun _ hk => hk.2))); have n3_ := Aside0.mk (hb); have n4_ := Aside0.mk (ho); clear BK635; clear BK636; clear BK645; clear HB; clear HO_8; have BK635 := n0_; have BK636 := n1_; have BK645 := n2_; have HB := n3_; have HO648 := n4_; clear n0_ n1_ n2_ n3_ n4_; clear ho hb hg hat))
              go_roundg k1
              case measure => have := HK1.out; omega
              case rel => exact ⟨(y646), (wrap64 (x9_1 + 1)), (t641), (t642), (t643), (by first | rfl | (simp; done) | (simp [*]; done)), H', ⟨by have := HK1.out; omega⟩, ⟨by (with_reducible repeat (first | apply Kd.R_alloc | apply Kd.R_drewN | apply Kd.R_drew)); exact Kd.R_mono HO648.out (fun _ hk => hk.1)⟩, ⟨by (with_reducible repeat (first | refine blk_drewN ?_ _ | refine blk_drew ?_ | refine blk_alloc ?_ _)); exact BK635.out⟩, ⟨by (with_reducible repeat (first | refine blk_drewN ?_ _ | refine blk_drew ?_ | refine blk_alloc ?_ _)); exact BK636.out⟩, ⟨by repeat (first | (with_reducible first | exact HB.out | apply below_alloc | apply pw_below_drewN | apply below_drew1 | refine below_set ?_ GE635.out | refine below_set ?_ GE636.out | refine below_set ?_ GE645.out) | exact HB.out)⟩⟩
            · rw [if_neg c14] at H
              exact absurd H (by simp)
          · rw [if_neg c13] at H
            have c13b0 : (t644 == 0) = false := beq_eq_false_iff_ne.mpr c13
            have c13b1 : (t644 != 0) = true := bne_iff_ne.mpr c13
            simp only [Option.some.injEq, Prod.mk.injEq] at H
            obtain ⟨rfl, rfl⟩ := H
            try go_wp2
            have n0_ := Aside0.mk (Kd.R_drew HO_8.out)
            have n1_ := Aside0.mk (blk_drew BK635.out)
            have n2_ := Aside0.mk (blk_drew BK636.out)
            have n3_ := Aside0.mk (below_drew1 HB.out)
            clear HO_8
            clear BK635
            clear BK636
            clear HB
            have HO_8 := n0_
            have BK635 := n1_
            have BK636 := n2_
            have HB := n3_
            clear n0_ n1_ n2_ n3_
            have p640 : 0 ≤ (x9_1 : Int) := of_decide_eq_true (by first | (with_reducible assumption) | assumption)
            have q640 : x9_1 < (l2.length : Int) := of_decide_eq_true (by first | (with_reducible assumption) | assumption)
            obtain ⟨ad640, e640, hx640_0, hx640_1⟩ := at_T161 HR2.out x9_1 p640 q640
            have hw640_1 := hx640_1
            have hw640_0 := hx640_0
            cases e640
            replace hx640_0 := (HB.out.cell (World.block_lt_of_cell? w _ hx640_0)).trans hx640_0
            replace hx640_1 := (HB.out.cell (World.block_lt_of_cell? w _ hx640_1)).trans hx640_1
            replace p640 := eq_true p640
            replace q640 := eq_true q640
            refine start_ (n := 13) (S := fun w' => w'.cell? ⟨gb635, 0, none⟩ = some (.int .i64 a0_0) ∧ w'.cell? ⟨gb635, 1, none⟩ = some (.int .i64 a0_1) ∧ w'.cell? ⟨gb635, 2, none⟩ = some (.int .i8 a0_2) ∧ w'.cell? ⟨gb635, 3, none⟩ = some (.int .i8 a0_3) ∧ w'.cell? ⟨gb636, 0, none⟩ = some (.int .i64 x637000_1) ∧ w'.cell? ⟨gb636, 1, none⟩ = some (.int .i64 x637001_1) ∧ w'.cell? ⟨gb636, 2, none⟩ = some (.int .i64 x637002_1) ∧ w'.cell? (ad640.add ((x9_1).toNat * 2)) = some (.int .i8 ((rd_T161 l2 x9_1).f0)) ∧ w'.cell? ⟨(ad640.add ((x9_1).toNat * 2)).block, (ad640.add ((x9_1).toNat * 2)).off + 1, none⟩ = some (.int .i64 ((rd_T161 l2 x9_1).f1))) (ds := []) #[false, false, false, false, false, false, false, false, false, false, false, false, false] (by kernel_rfl) rfl rfl ⟨(blk_cell BK635.out 0).trans rfl, (blk_cell BK635.out 1).trans rfl, (blk_cell BK635.out 2).trans rfl, (blk_cell BK635.out 3).trans rfl, (blk_cell BK636.out 0).trans rfl, (blk_cell BK636.out 1).trans rfl, (blk_cell BK636.out 2).trans rfl, ((HB.out.cell (World.block_lt_of_cell? w _ hw640_0)).trans hw640_0), ((HB.out.cell (World.block_lt_of_cell? w _ hw640_1)).trans hw640_1)⟩ (fun hHeld => ?_); refine with_tabW spec_l04Do.tab5 spec_l04Do.bits5 (fun HT_ HW_ => ?_)
            generalize wr.drew = w28 at HO_8 BK635 BK636 HB hx640_0 hx640_1 hHeld ⊢
            refine pure_ (i := 2) (N := some 23) (v := ?_) (a' := ?_) #[false, false, true, false, false, false, false, false, false, false, false, false, false] rfl rfl (any_of HT_.out (by kernel_rfl)) (fun _ _ _ h => h) (Or.inl ⟨by rfl, ?_⟩) ?_ ?_
            rotate_left
            · intro w'
              go_simp
              with_reducible rfl
            rotate_left
            · simp only [Act.put, List.setIfInBounds_toArray, List.set_cons_zero, List.set_cons_succ, i64_w, i32_w]
              rfl
            refine pure_ (i := 3) (N := some 24) (v := ?_) (a' := ?_) #[false, false, true, true, false, false, false, false, false, false, false, false, false] rfl rfl (any_of HT_.out (by kernel_rfl)) (fun _ _ _ h => h) (Or.inl ⟨by rfl, ?_⟩) ?_ ?_
            rotate_left
            · intro w'
              go_simp
              with_reducible rfl
            rotate_left
            · simp only [Act.put, List.setIfInBounds_toArray, List.set_cons_zero, List.set_cons_succ, i64_w, i32_w]
              rfl
            refine pure_ (i := 4) (N := some 25) (v := ?_) (a' := ?_) #[false, false, true, true, true, false, false, false, false, false, false, false, false] rfl rfl (any_of HT_.out (by kernel_rfl)) (fun _ _ _ h => h) (Or.inl ⟨by rfl, ?_⟩) ?_ ?_
            rotate_left
            · intro w'
              go_simp
              with_reducible rfl
            rotate_left
            · simp only [Act.put, List.setIfInBounds_toArray, List.set_cons_zero, List.set_cons_succ, i64_w, i32_w]
              rfl
            refine take_ (i := 0) (N := some 21) (v := ?_) (a' := ?_) #[true, false, true, true, true, false, false, false, false, false, false, false, false] rfl rfl (take_ofW HT_.out HW_.out (by kernel_rfl)) (fun _ _ _ h => h) (Or.inl ⟨by rfl, ?_⟩) hHeld ?_ ?_
            rotate_left
            · rintro w' ⟨s0, s1, s2, s3, s4, s5, s6, s7, s8⟩
              go_simp
              with_reducible rfl
            rotate_left
            · simp only [Act.put, List.setIfInBounds_toArray, List.set_cons_zero, List.set_cons_succ, i64_w, i32_w]
              rfl
            refine take_ (i := 1) (N := some 22) (v := ?_) (a' := ?_) #[true, true, true, true, true, false, false, false, false, false, false, false, false] rfl rfl (take_ofW HT_.out HW_.out (by kernel_rfl)) (fun _ _ _ h => h) (Or.inl ⟨by rfl, ?_⟩) hHeld ?_ ?_
            rotate_left
            · rintro w' ⟨s0, s1, s2, s3, s4, s5, s6, s7, s8⟩
              go_simp
              with_reducible rfl
            rotate_left
            · simp only [Act.put, List.setIfInBounds_toArray, List.set_cons_zero, List.set_cons_succ, i64_w, i32_w]
              rfl
            refine take_ (i := 5) (N := some 26) (v := ?_) (a' := ?_) #[true, true, true, true, true, true, false, false, false, false, false, false, false] rfl rfl (take_ofW HT_.out HW_.out (by kernel_rfl)) (fun _ _ _ h => h) (Or.inl ⟨by rfl, ?_⟩) hHeld ?_ ?_
            rotate_left
            · rintro w' ⟨s0, s1, s2, s3, s4, s5, s6, s7, s8⟩
              go_simp
              with_reducible rfl
            rotate_left
            · simp only [Act.put, List.setIfInBounds_toArray, List.set_cons_zero, List.set_cons_succ, i64_w, i32_w]
              rfl
            refine join_ (σ := Nat) 2 #[true, true, true, true, true, true, true, true, true, true, true, false, false] (fun s_ => [(27, .tuple #[.agg #[.int .i64 t641, .int .i64 t642, .int .i64 t643], .int .i64 t644]), (10, .pointer (some ⟨s_, 0, none⟩)), (20, .tuple #[.agg #[.int .i64 t641, .int .i64 t642, .int .i64 t643], .int .i64 t644]), (28, .agg #[.int .i64 t641, .int .i64 t642, .int .i64 t643]), (29, .int .i64 t644)]) (fun s_ w' => (w'.cell? ⟨gb635, 0, none⟩ = some (.int .i64 a0_0) ∧ w'.cell? ⟨gb635, 1, none⟩ = some (.int .i64 a0_1) ∧ w'.cell? ⟨gb635, 2, none⟩ = some (.int .i8 a0_2) ∧ w'.cell? ⟨gb635, 3, none⟩ = some (.int .i8 a0_3) ∧ w'.cell? ⟨gb636, 0, none⟩ = some (.int .i64 x637000_1) ∧ w'.cell? ⟨gb636, 1, none⟩ = some (.int .i64 x637001_1) ∧ w'.cell? ⟨gb636, 2, none⟩ = some (.int .i64 x637002_1) ∧ w'.cell? (ad640.add ((x9_1).toNat * 2)) = some (.int .i8 ((rd_T161 l2 x9_1).f0)) ∧ w'.cell? ⟨(ad640.add ((x9_1).toNat * 2)).block, (ad640.add ((x9_1).toNat * 2)).off + 1, none⟩ = some (.int .i64 ((rd_T161 l2 x9_1).f1))) ∧ (Kd.R k73 73 w' w.heap.size (fun k_ => k_ ≠ gb636 ∧ k_ ≠ s_) u8 x8_1) ∧ (w'.heap[gb635]? = some (.cells #[.int .i64 a0_0, .int .i64 a0_1, .int .i8 a0_2, .int .i8 a0_3] 71 (0, 0))) ∧ (w'.heap[gb636]? = some (.cells #[.int .i64 x637000_1, .int .i64 x637001_1, .int .i64 x637002_1] 73 (0, 0))) ∧ (w'.heap[s_]? = some (.cells #[.int .i64 0, .int .i64 0, .int .i64 0] 73 (0, 0))) ∧ (w.heap.size ≤ s_) ∧ (w.heap.size ≤ s_) ∧ (gb635 ≠ s_) ∧ (s_ ≠ gb635) ∧ (gb636 ≠ s_) ∧ (s_ ≠ gb636) ∧ (Below w.heap.size w w')) ?_ ?_
            rotate_left
            · intro hCont
              refine two_ (i := 6) (j := 10) (Ni := some 27) (Nj := some 10) #[true, true, true, true, true, true, true, false, false, false, false, false, false] #[true, true, true, true, true, true, false, false, false, false, true, false, false] rfl rfl rfl rfl (two_of HT_.out (by kernel_rfl)) (by decide) (by decide) (fun K hK => ?_) (fun K hK => ?_)
              · skip
                refine goes_ Try.func185 (by kernel_rfl) rfl #[.agg #[.int .i64 a0_0, .int .i64 a0_1, .int .i8 a0_2, .int .i8 a0_3], .agg #[.int .i64 x637000_1, .int .i64 x637001_1, .int .i64 x637002_1], .agg #[.int .i8 ((rd_T161 l2 x9_1).f0), .int .i64 ((rd_T161 l2 x9_1).f1)]] (by rfl) rfl rfl (by (try simp only [List.map_toArray, List.map_cons, List.map_nil]); first | done | rfl | (simp only [List.length_drop, List.length_take]; rfl)) ?_
                with_reducible refine (spec_l04Act.calls k1 a0_0 a0_1 a0_2 a0_3 x637000_1 x637001_1 x637002_1 ((rd_T161 l2 x9_1).f0) ((rd_T161 l2 x9_1).f1) t641 t642 t643 t644 _ A12.out).mono ?_
                rintro e w29 ⟨rfl, hb⟩
                refine ⟨_, rfl, ?_⟩
                have n0_ := Aside0.mk (Kd.R_below (by (with_reducible repeat (first | apply Kd.R_alloc | apply Kd.R_drewN | apply Kd.R_drew)); exact HO_8.out) hb)
                have n1_ := Aside0.mk (blk_below BK635.out hb)
                have n2_ := Aside0.mk (blk_below BK636.out hb)
                have n3_ := Aside0.mk (below_step HB.out hb)
                clear HO_8
                clear BK635
                clear BK636
                clear HB
                have HO_8 := n0_
                have BK635 := n1_
                have BK636 := n2_
                have HB := n3_
                clear n0_ n1_ n2_ n3_
                (try clear hb)
                (try clear hb2)
                (try clear hk)
                (try clear hi)
                refine hK.out _ _ ⟨(blk_cell BK635.out 0).trans rfl, (blk_cell BK635.out 1).trans rfl, (blk_cell BK635.out 2).trans rfl, (blk_cell BK635.out 3).trans rfl, (blk_cell BK636.out 0).trans rfl, (blk_cell BK636.out 1).trans rfl, (blk_cell BK636.out 2).trans rfl, ((HB.out.cell (World.block_lt_of_cell? w _ hw640_0)).trans hw640_0), ((HB.out.cell (World.block_lt_of_cell? w _ hw640_1)).trans hw640_1)⟩ (fun hHeld => ?_)
                clear hK K
                refine norm_ (a' := ?_) ?_ ?_
                rotate_left
                · show Act.put _ (some 27) _ = _
                  simp only [Act.put, List.setIfInBounds_toArray, List.set_cons_zero, List.set_cons_succ, i64_w, i32_w]
                  rfl
                refine pure_ (i := 7) (N := some 20) (v := ?_) (a' := ?_) #[true, true, true, true, true, true, true, true, false, false, false, false, false] rfl rfl (any_of HT_.out (by kernel_rfl)) (fun _ _ _ h => h) (Or.inl ⟨by rfl, ?_⟩) ?_ ?_
                rotate_left
                · intro w'
                  go_simp
                  with_reducible rfl
                rotate_left
                · simp only [Act.put, List.setIfInBounds_toArray, List.set_cons_zero, List.set_cons_succ, i64_w, i32_w]
                  rfl
                refine pure_ (i := 8) (N := some 28) (v := ?_) (a' := ?_) #[true, true, true, true, true, true, true, true, true, false, false, false, false] rfl rfl (any_of HT_.out (by kernel_rfl)) (fun _ _ _ h => h) (Or.inl ⟨by rfl, ?_⟩) ?_ ?_
                rotate_left
                · intro w'
                  go_simp
                  with_reducible rfl
                rotate_left
                · simp only [Act.put, List.setIfInBounds_toArray, List.set_cons_zero, List.set_cons_succ, i64_w, i32_w]
                  rfl
                refine pure_ (i := 9) (N := some 29) (v := ?_) (a' := ?_) #[true, true, true, true, true, true, true, true, true, true, false, false, false] rfl rfl (any_of HT_.out (by kernel_rfl)) (fun _ _ _ h => h) (Or.inl ⟨by rfl, ?_⟩) ?_ ?_
                rotate_left
                · intro w'
                  go_simp
                  with_reducible rfl
                rotate_left
                · simp only [Act.put, List.setIfInBounds_toArray, List.set_cons_zero, List.set_cons_succ, i64_w, i32_w]
                  rfl
                refine one_ (i := 10) (N := some 10) #[true, true, true, true, true, true, true, true, true, true, true, false, false] rfl rfl (one_of HT_.out (by kernel_rfl)) (by decide) (fun K hK => ?_)
                refine box_step ?hg (N := 10) ?hd (cs := #[.int .i64 0, .int .i64 0, .int .i64 0]) (t := 73) ?hr ?_; (case hd => rfl); (case hg => rfl); (case hr => first | (go_simp; done) | (go_simp; rfl))
                intro gb645 hg w30 hbox hb
                have n0_ := Aside0.mk (Kd.R_below (Kd.R_elderB HO_8.out gb645 (Nat.le_of_eq hg.symm)) hb)
                have n1_ := Aside0.mk (blk_below BK635.out hb)
                have n2_ := Aside0.mk (blk_below BK636.out hb)
                have n3_ := Aside0.mk (below_step HB.out hb)
                have n4_ := Aside0.mk (hbox)
                have n5_ := Aside0.mk ((by rw [hg]; exact (below_size HB.out) : w.heap.size ≤ gb645))
                have n6_ := Aside0.mk ((by rw [hg]; exact (below_size HB.out) : w.heap.size ≤ gb645))
                have n7_ := Aside0.mk ((by rw [hg]; exact Nat.ne_of_lt (blk_lt BK635.out) : gb635 ≠ gb645))
                have n8_ := Aside0.mk ((by rw [hg]; exact Nat.ne_of_gt (blk_lt BK635.out) : gb645 ≠ gb635))
                have n9_ := Aside0.mk ((by rw [hg]; exact Nat.ne_of_lt (blk_lt BK636.out) : gb636 ≠ gb645))
                have n10_ := Aside0.mk ((by rw [hg]; exact Nat.ne_of_gt (blk_lt BK636.out) : gb645 ≠ gb636))
                clear HO_8
                clear BK635
                clear BK636
                clear HB
                have HO_8 := n0_
                have BK635 := n1_
                have BK636 := n2_
                have HB := n3_
                have BK645 := n4_
                have GW645 := n5_
                have GE645 := n6_
                have NB635_645 := n7_
                have NB645_635 := n8_
                have NB636_645 := n9_
                have NB645_636 := n10_
                clear n0_ n1_ n2_ n3_ n4_ n5_ n6_ n7_ n8_ n9_ n10_
                clear hb hbox hg
                refine hK.out _ _ ⟨(blk_cell BK635.out 0).trans rfl, (blk_cell BK635.out 1).trans rfl, (blk_cell BK635.out 2).trans rfl, (blk_cell BK635.out 3).trans rfl, (blk_cell BK636.out 0).trans rfl, (blk_cell BK636.out 1).trans rfl, (blk_cell BK636.out 2).trans rfl, ((HB.out.cell (World.block_lt_of_cell? w _ hw640_0)).trans hw640_0), ((HB.out.cell (World.block_lt_of_cell? w _ hw640_1)).trans hw640_1)⟩ (fun hHeld => ?_)
                clear hK K
                refine norm_ (a' := ?_) ?_ ?_
                rotate_left
                · show Act.put _ (some 10) _ = _
                  simp only [Act.put, List.setIfInBounds_toArray, List.set_cons_zero, List.set_cons_succ, i64_w, i32_w]
                  rfl
                exact norm_ (by simp only [putAll, Act.put, List.setIfInBounds_toArray, List.set_cons_zero, List.set_cons_succ]) (hCont (gb645) _ ⟨hHeld, (by (with_reducible repeat (first | apply Kd.R_alloc | apply Kd.R_drewN | apply Kd.R_drew)); exact HO_8.out), (by (with_reducible repeat (first | refine blk_drewN ?_ _ | refine blk_drew ?_ | refine blk_alloc ?_ _)); exact BK635.out), (by (with_reducible repeat (first | refine blk_drewN ?_ _ | refine blk_drew ?_ | refine blk_alloc ?_ _)); exact BK636.out), (by (with_reducible repeat (first | refine blk_drewN ?_ _ | refine blk_drew ?_ | refine blk_alloc ?_ _)); exact BK645.out), GW645.out, GE645.out, NB635_645.out, NB645_635.out, NB636_645.out, NB645_636.out, (by repeat (first | (with_reducible first | exact HB.out | apply below_alloc | apply pw_below_drewN | apply below_drew1 | refine below_set ?_ GE635.out | refine below_set ?_ GE636.out | refine below_set ?_ GE645.out) | exact HB.out))⟩)
              · skip
                refine box_step ?hg (N := 10) ?hd (cs := #[.int .i64 0, .int .i64 0, .int .i64 0]) (t := 73) ?hr ?_; (case hd => rfl); (case hg => rfl); (case hr => first | (go_simp; done) | (go_simp; rfl))
                intro gb645 hg w29 hbox hb
                have n0_ := Aside0.mk (Kd.R_below (Kd.R_elderB HO_8.out gb645 (Nat.le_of_eq hg.symm)) hb)
                have n1_ := Aside0.mk (blk_below BK635.out hb)
                have n2_ := Aside0.mk (blk_below BK636.out hb)
                have n3_ := Aside0.mk (below_step HB.out hb)
                have n4_ := Aside0.mk (hbox)
                have n5_ := Aside0.mk ((by rw [hg]; exact (below_size HB.out) : w.heap.size ≤ gb645))
                have n6_ := Aside0.mk ((by rw [hg]; exact (below_size HB.out) : w.heap.size ≤ gb645))
                have n7_ := Aside0.mk ((by rw [hg]; exact Nat.ne_of_lt (blk_lt BK635.out) : gb635 ≠ gb645))
                have n8_ := Aside0.mk ((by rw [hg]; exact Nat.ne_of_gt (blk_lt BK635.out) : gb645 ≠ gb635))
                have n9_ := Aside0.mk ((by rw [hg]; exact Nat.ne_of_lt (blk_lt BK636.out) : gb636 ≠ gb645))
                have n10_ := Aside0.mk ((by rw [hg]; exact Nat.ne_of_gt (blk_lt BK636.out) : gb645 ≠ gb636))
                clear HO_8
                clear BK635
                clear BK636
                clear HB
                have HO_8 := n0_
                have BK635 := n1_
                have BK636 := n2_
                have HB := n3_
                have BK645 := n4_
                have GW645 := n5_
                have GE645 := n6_
                have NB635_645 := n7_
                have NB645_635 := n8_
                have NB636_645 := n9_
                have NB645_636 := n10_
                clear n0_ n1_ n2_ n3_ n4_ n5_ n6_ n7_ n8_ n9_ n10_
                clear hb hbox hg
                refine hK.out _ _ ⟨(blk_cell BK635.out 0).trans rfl, (blk_cell BK635.out 1).trans rfl, (blk_cell BK635.out 2).trans rfl, (blk_cell BK635.out 3).trans rfl, (blk_cell BK636.out 0).trans rfl, (blk_cell BK636.out 1).trans rfl, (blk_cell BK636.out 2).trans rfl, ((HB.out.cell (World.block_lt_of_cell? w _ hw640_0)).trans hw640_0), ((HB.out.cell (World.block_lt_of_cell? w _ hw640_1)).trans hw640_1)⟩ (fun hHeld => ?_)
                clear hK K
                refine norm_ (a' := ?_) ?_ ?_
                rotate_left
                · show Act.put _ (some 10) _ = _
                  simp only [Act.put, List.setIfInBounds_toArray, List.set_cons_zero, List.set_cons_succ, i64_w, i32_w]
                  rfl
                refine one_ (i := 6) (N := some 27) #[true, true, true, true, true, true, true, false, false, false, true, false, false] rfl rfl (one_of HT_.out (by kernel_rfl)) (by decide) (fun K hK => ?_)
                refine goes_ Try.func185 (by kernel_rfl) rfl #[.agg #[.int .i64 a0_0, .int .i64 a0_1, .int .i8 a0_2, .int .i8 a0_3], .agg #[.int .i64 x637000_1, .int .i64 x637001_1, .int .i64 x637002_1], .agg #[.int .i8 ((rd_T161 l2 x9_1).f0), .int .i64 ((rd_T161 l2 x9_1).f1)]] (by rfl) rfl rfl (by (try simp only [List.map_toArray, List.map_cons, List.map_nil]); first | done | rfl | (simp only [List.length_drop, List.length_take]; rfl)) ?_
                with_reducible refine (spec_l04Act.calls k1 a0_0 a0_1 a0_2 a0_3 x637000_1 x637001_1 x637002_1 ((rd_T161 l2 x9_1).f0) ((rd_T161 l2 x9_1).f1) t641 t642 t643 t644 _ A12.out).mono ?_
                rintro e w30 ⟨rfl, hb⟩
                refine ⟨_, rfl, ?_⟩
                have n0_ := Aside0.mk (Kd.R_below (by (with_reducible repeat (first | apply Kd.R_alloc | apply Kd.R_drewN | apply Kd.R_drew)); exact HO_8.out) hb)
                have n1_ := Aside0.mk (blk_below BK635.out hb)
                have n2_ := Aside0.mk (blk_below BK636.out hb)
                have n3_ := Aside0.mk (blk_below BK645.out hb)
                have n4_ := Aside0.mk (below_step HB.out hb)
                clear HO_8
                clear BK635
                clear BK636
                clear BK645
                clear HB
                have HO_8 := n0_
                have BK635 := n1_
                have BK636 := n2_
                have BK645 := n3_
                have HB := n4_
                clear n0_ n1_ n2_ n3_ n4_
                (try clear hb)
                (try clear hb2)
                (try clear hk)
                (try clear hi)
                refine hK.out _ _ ⟨(blk_cell BK635.out 0).trans rfl, (blk_cell BK635.out 1).trans rfl, (blk_cell BK635.out 2).trans rfl, (blk_cell BK635.out 3).trans rfl, (blk_cell BK636.out 0).trans rfl, (blk_cell BK636.out 1).trans rfl, (blk_cell BK636.out 2).trans rfl, ((HB.out.cell (World.block_lt_of_cell? w _ hw640_0)).trans hw640_0), ((HB.out.cell (World.block_lt_of_cell? w _ hw640_1)).trans hw640_1)⟩ (fun hHeld => ?_)
                clear hK K
                refine norm_ (a' := ?_) ?_ ?_
                rotate_left
                · show Act.put _ (some 27) _ = _
                  simp only [Act.put, List.setIfInBounds_toArray, List.set_cons_zero, List.set_cons_succ, i64_w, i32_w]
                  rfl
                refine pure_ (i := 7) (N := some 20) (v := ?_) (a' := ?_) #[true, true, true, true, true, true, true, true, false, false, true, false, false] rfl rfl (any_of HT_.out (by kernel_rfl)) (fun _ _ _ h => h) (Or.inl ⟨by rfl, ?_⟩) ?_ ?_
                rotate_left
                · intro w'
                  go_simp
                  with_reducible rfl
                rotate_left
                · simp only [Act.put, List.setIfInBounds_toArray, List.set_cons_zero, List.set_cons_succ, i64_w, i32_w]
                  rfl
                refine pure_ (i := 8) (N := some 28) (v := ?_) (a' := ?_) #[true, true, true, true, true, true, true, true, true, false, true, false, false] rfl rfl (any_of HT_.out (by kernel_rfl)) (fun _ _ _ h => h) (Or.inl ⟨by rfl, ?_⟩) ?_ ?_
                rotate_left
                · intro w'
                  go_simp
                  with_reducible rfl
                rotate_left
                · simp only [Act.put, List.setIfInBounds_toArray, List.set_cons_zero, List.set_cons_succ, i64_w, i32_w]
                  rfl
                refine pure_ (i := 9) (N := some 29) (v := ?_) (a' := ?_) #[true, true, true, true, true, true, true, true, true, true, true, false, false] rfl rfl (any_of HT_.out (by kernel_rfl)) (fun _ _ _ h => h) (Or.inl ⟨by rfl, ?_⟩) ?_ ?_
                rotate_left
                · intro w'
                  go_simp
                  with_reducible rfl
                rotate_left
                · simp only [Act.put, List.setIfInBounds_toArray, List.set_cons_zero, List.set_cons_succ, i64_w, i32_w]
                  rfl
                exact norm_ (by simp only [putAll, Act.put, List.setIfInBounds_toArray, List.set_cons_zero, List.set_cons_succ]) (hCont (gb645) _ ⟨hHeld, (by (with_reducible repeat (first | apply Kd.R_alloc | apply Kd.R_drewN | apply Kd.R_drew)); exact HO_8.out), (by (with_reducible repeat (first | refine blk_drewN ?_ _ | refine blk_drew ?_ | refine blk_alloc ?_ _)); exact BK635.out), (by (with_reducible repeat (first | refine blk_drewN ?_ _ | refine blk_drew ?_ | refine blk_alloc ?_ _)); exact BK636.out), (by (with_reducible repeat (first | refine blk_drewN ?_ _ | refine blk_drew ?_ | refine blk_alloc ?_ _)); exact BK645.out), GW645.out, GE645.out, NB635_645.out, NB645_635.out, NB636_645.out, NB645_636.out, (by repeat (first | (with_reducible first | exact HB.out | apply below_alloc | apply pw_below_drewN | apply below_drew1 | refine below_set ?_ GE635.out | refine below_set ?_ GE636.out | refine below_set ?_ GE645.out) | exact HB.out))⟩)
            rintro gb645 w31 ⟨hS_, h0_, h1_, h2_, h3_, h4_, h5_, h6_, h7_, h8_, h9_, h10_⟩
            have n0_ : Aside0 (Kd.R k73 73 w31 w.heap.size (fun k_ => k_ ≠ gb636 ∧ k_ ≠ gb645) u8 x8_1) := ⟨h0_⟩
            have n1_ : Aside0 (w31.heap[gb635]? = some (.cells #[.int .i64 a0_0, .int .i64 a0_1, .int .i8 a0_2, .int .i8 a0_3] 71 (0, 0))) := ⟨h1_⟩
            have n2_ : Aside0 (w31.heap[gb636]? = some (.cells #[.int .i64 x637000_1, .int .i64 x637001_1, .int .i64 x637002_1] 73 (0, 0))) := ⟨h2_⟩
            have n3_ : Aside0 (w31.heap[gb645]? = some (.cells #[.int .i64 0, .int .i64 0, .int .i64 0] 73 (0, 0))) := ⟨h3_⟩
            have n4_ : Aside0 (w.heap.size ≤ gb645) := ⟨h4_⟩
            have n5_ : Aside0 (w.heap.size ≤ gb645) := ⟨h5_⟩
            have n6_ : Aside0 (gb635 ≠ gb645) := ⟨h6_⟩
            have n7_ : Aside0 (gb645 ≠ gb635) := ⟨h7_⟩
            have n8_ : Aside0 (gb636 ≠ gb645) := ⟨h8_⟩
            have n9_ : Aside0 (gb645 ≠ gb636) := ⟨h9_⟩
            have n10_ : Aside0 (Below w.heap.size w w31) := ⟨h10_⟩
            clear HO_8
            clear BK635
            clear BK636
            clear HB
            clear h0_ h1_ h2_ h3_ h4_ h5_ h6_ h7_ h8_ h9_ h10_
            have HO_8 := n0_
            have BK635 := n1_
            have BK636 := n2_
            have BK645 := n3_
            have GW645 := n4_
            have GE645 := n5_
            have NB635_645 := n6_
            have NB645_635 := n7_
            have NB636_645 := n8_
            have NB645_636 := n9_
            have HB := n10_
            clear n0_ n1_ n2_ n3_ n4_ n5_ n6_ n7_ n8_ n9_ n10_
            have hHeld : w31.cell? ⟨gb635, 0, none⟩ = some (.int .i64 a0_0) ∧ w31.cell? ⟨gb635, 1, none⟩ = some (.int .i64 a0_1) ∧ w31.cell? ⟨gb635, 2, none⟩ = some (.int .i8 a0_2) ∧ w31.cell? ⟨gb635, 3, none⟩ = some (.int .i8 a0_3) ∧ w31.cell? ⟨gb636, 0, none⟩ = some (.int .i64 x637000_1) ∧ w31.cell? ⟨gb636, 1, none⟩ = some (.int .i64 x637001_1) ∧ w31.cell? ⟨gb636, 2, none⟩ = some (.int .i64 x637002_1) ∧ w31.cell? (ad640.add ((x9_1).toNat * 2)) = some (.int .i8 ((rd_T161 l2 x9_1).f0)) ∧ w31.cell? ⟨(ad640.add ((x9_1).toNat * 2)).block, (ad640.add ((x9_1).toNat * 2)).off + 1, none⟩ = some (.int .i64 ((rd_T161 l2 x9_1).f1)) := hS_
            refine norm_ (a' := ?_) ?_ ?_
            rotate_left
            · simp only [putAll, Act.put, List.setIfInBounds_toArray, List.set_cons_zero, List.set_cons_succ]
              rfl
            refine one_ (i := 11) (N := none) #[true, true, true, true, true, true, true, true, true, true, true, true, false] rfl rfl (one_of HT_.out (by kernel_rfl)) (by decide) (fun K hK => ?_)
            have hs32 : w31.cell? ⟨gb645, 0, none⟩ = some (.int .i64 0) := (blk_cell BK645.out 0).trans rfl
            have hfs32 := blk_frozen BK645.out 0
            have hns32_0 := NB635_645.out
            have hns32_1 := NB636_645.out
            have hms32_0 := NB645_635.out
            have hms32_1 := NB645_636.out
            have hs33 : w31.cell? ⟨gb645, 1, none⟩ = some (.int .i64 0) := (blk_cell BK645.out 1).trans rfl
            have hfs33 := blk_frozen BK645.out 1
            have hns33_0 := NB635_645.out
            have hns33_1 := NB636_645.out
            have hms33_0 := NB645_635.out
            have hms33_1 := NB645_636.out
            have hs34 : w31.cell? ⟨gb645, 2, none⟩ = some (.int .i64 0) := (blk_cell BK645.out 2).trans rfl
            have hfs34 := blk_frozen BK645.out 2
            have hns34_0 := NB635_645.out
            have hns34_1 := NB636_645.out
            have hms34_0 := NB645_635.out
            have hms34_1 := NB645_636.out
            refine skip_ (w1 := ?_) (by rfl) rfl ?_ ?_
            rotate_left
            · go_simp
              rfl
            refine hK.out _ _ ⟨((cell_far (p := ⟨gb645, _, none⟩) NB635_645.out _).trans (((cell_far (p := ⟨gb645, _, none⟩) NB635_645.out _).trans (((cell_far (p := ⟨gb645, _, none⟩) NB635_645.out _).trans (hHeld.1)))))), ((cell_far (p := ⟨gb645, _, none⟩) NB635_645.out _).trans (((cell_far (p := ⟨gb645, _, none⟩) NB635_645.out _).trans (((cell_far (p := ⟨gb645, _, none⟩) NB635_645.out _).trans (hHeld.2.1)))))), ((cell_far (p := ⟨gb645, _, none⟩) NB635_645.out _).trans (((cell_far (p := ⟨gb645, _, none⟩) NB635_645.out _).trans (((cell_far (p := ⟨gb645, _, none⟩) NB635_645.out _).trans (hHeld.2.2.1)))))), ((cell_far (p := ⟨gb645, _, none⟩) NB635_645.out _).trans (((cell_far (p := ⟨gb645, _, none⟩) NB635_645.out _).trans (((cell_far (p := ⟨gb645, _, none⟩) NB635_645.out _).trans (hHeld.2.2.2.1)))))), ((cell_far (p := ⟨gb645, _, none⟩) NB636_645.out _).trans (((cell_far (p := ⟨gb645, _, none⟩) NB636_645.out _).trans (((cell_far (p := ⟨gb645, _, none⟩) NB636_645.out _).trans (hHeld.2.2.2.2.1)))))), ((cell_far (p := ⟨gb645, _, none⟩) NB636_645.out _).trans (((cell_far (p := ⟨gb645, _, none⟩) NB636_645.out _).trans (((cell_far (p := ⟨gb645, _, none⟩) NB636_645.out _).trans (hHeld.2.2.2.2.2.1)))))), ((cell_far (p := ⟨gb645, _, none⟩) NB636_645.out _).trans (((cell_far (p := ⟨gb645, _, none⟩) NB636_645.out _).trans (((cell_far (p := ⟨gb645, _, none⟩) NB636_645.out _).trans (hHeld.2.2.2.2.2.2.1)))))), ((cell_far (p := ⟨gb645, _, none⟩) (by first | exact Nat.ne_of_lt (Nat.lt_of_lt_of_le (by have := World.block_lt_of_cell? _ _ hw640_0; first | rwa [add_block] at this | exact this) GW645.out) | (rw [add_block]; exact Nat.ne_of_lt (Nat.lt_of_lt_of_le (by have := World.block_lt_of_cell? _ _ hw640_0; first | rwa [add_block] at this | exact this) GW645.out)) | (show (Addr.add _ _).block ≠ _; rw [add_block]; exact Nat.ne_of_lt (Nat.lt_of_lt_of_le (by have := World.block_lt_of_cell? _ _ hw640_0; first | rwa [add_block] at this | exact this) GW645.out)) | (dsimp only; exact Nat.ne_of_lt (Nat.lt_of_lt_of_le (by have := World.block_lt_of_cell? _ _ hw640_0; first | rwa [add_block] at this | exact this) GW645.out))) _).trans (((cell_far (p := ⟨gb645, _, none⟩) (by first | exact Nat.ne_of_lt (Nat.lt_of_lt_of_le (by have := World.block_lt_of_cell? _ _ hw640_0; first | rwa [add_block] at this | exact this) GW645.out) | (rw [add_block]; exact Nat.ne_of_lt (Nat.lt_of_lt_of_le (by have := World.block_lt_of_cell? _ _ hw640_0; first | rwa [add_block] at this | exact this) GW645.out)) | (show (Addr.add _ _).block ≠ _; rw [add_block]; exact Nat.ne_of_lt (Nat.lt_of_lt_of_le (by have := World.block_lt_of_cell? _ _ hw640_0; first | rwa [add_block] at this | exact this) GW645.out)) | (dsimp only; exact Nat.ne_of_lt (Nat.lt_of_lt_of_le (by have := World.block_lt_of_cell? _ _ hw640_0; first | rwa [add_block] at this | exact this) GW645.out))) _).trans (((cell_far (p := ⟨gb645, _, none⟩) (by first | exact Nat.ne_of_lt (Nat.lt_of_lt_of_le (by have := World.block_lt_of_cell? _ _ hw640_0; first | rwa [add_block] at this | exact this) GW645.out) | (rw [add_block]; exact Nat.ne_of_lt (Nat.lt_of_lt_of_le (by have := World.block_lt_of_cell? _ _ hw640_0; first | rwa [add_block] at this | exact this) GW645.out)) | (show (Addr.add _ _).block ≠ _; rw [add_block]; exact Nat.ne_of_lt (Nat.lt_of_lt_of_le (by have := World.block_lt_of_cell? _ _ hw640_0; first | rwa [add_block] at this | exact this) GW645.out)) | (dsimp only; exact Nat.ne_of_lt (Nat.lt_of_lt_of_le (by have := World.block_lt_of_cell? _ _ hw640_0; first | rwa [add_block] at this | exact this) GW645.out))) _).trans (hHeld.2.2.2.2.2.2.2.1)))))), ((cell_far (p := ⟨gb645, _, none⟩) (by first | exact Nat.ne_of_lt (Nat.lt_of_lt_of_le (by have := World.block_lt_of_cell? _ _ hw640_1; first | rwa [add_block] at this | exact this) GW645.out) | (rw [add_block]; exact Nat.ne_of_lt (Nat.lt_of_lt_of_le (by have := World.block_lt_of_cell? _ _ hw640_1; first | rwa [add_block] at this | exact this) GW645.out)) | (show (Addr.add _ _).block ≠ _; rw [add_block]; exact Nat.ne_of_lt (Nat.lt_of_lt_of_le (by have := World.block_lt_of_cell? _ _ hw640_1; first | rwa [add_block] at this | exact this) GW645.out)) | (dsimp only; exact Nat.ne_of_lt (Nat.lt_of_lt_of_le (by have := World.block_lt_of_cell? _ _ hw640_1; first | rwa [add_block] at this | exact this) GW645.out))) _).trans (((cell_far (p := ⟨gb645, _, none⟩) (by first | exact Nat.ne_of_lt (Nat.lt_of_lt_of_le (by have := World.block_lt_of_cell? _ _ hw640_1; first | rwa [add_block] at this | exact this) GW645.out) | (rw [add_block]; exact Nat.ne_of_lt (Nat.lt_of_lt_of_le (by have := World.block_lt_of_cell? _ _ hw640_1; first | rwa [add_block] at this | exact this) GW645.out)) | (show (Addr.add _ _).block ≠ _; rw [add_block]; exact Nat.ne_of_lt (Nat.lt_of_lt_of_le (by have := World.block_lt_of_cell? _ _ hw640_1; first | rwa [add_block] at this | exact this) GW645.out)) | (dsimp only; exact Nat.ne_of_lt (Nat.lt_of_lt_of_le (by have := World.block_lt_of_cell? _ _ hw640_1; first | rwa [add_block] at this | exact this) GW645.out))) _).trans (((cell_far (p := ⟨gb645, _, none⟩) (by first | exact Nat.ne_of_lt (Nat.lt_of_lt_of_le (by have := World.block_lt_of_cell? _ _ hw640_1; first | rwa [add_block] at this | exact this) GW645.out) | (rw [add_block]; exact Nat.ne_of_lt (Nat.lt_of_lt_of_le (by have := World.block_lt_of_cell? _ _ hw640_1; first | rwa [add_block] at this | exact this) GW645.out)) | (show (Addr.add _ _).block ≠ _; rw [add_block]; exact Nat.ne_of_lt (Nat.lt_of_lt_of_le (by have := World.block_lt_of_cell? _ _ hw640_1; first | rwa [add_block] at this | exact this) GW645.out)) | (dsimp only; exact Nat.ne_of_lt (Nat.lt_of_lt_of_le (by have := World.block_lt_of_cell? _ _ hw640_1; first | rwa [add_block] at this | exact this) GW645.out))) _).trans (hHeld.2.2.2.2.2.2.2.2))))))⟩ (fun hHeld => ?_)
            clear hK K
            refine pure_ (i := 12) (N := some 11) (v := ?_) (a' := ?_) #[true, true, true, true, true, true, true, true, true, true, true, true, true] rfl rfl (any_of HT_.out (by kernel_rfl)) (fun _ _ _ h => h) (Or.inl ⟨by rfl, ?_⟩) ?_ ?_
            rotate_left
            · intro w'
              go_simp
              with_reducible rfl
            rotate_left
            · simp only [Act.put, List.setIfInBounds_toArray, List.set_cons_zero, List.set_cons_succ, i64_w, i32_w]
              rfl
            refine done_ (done_of HT_.out (by kernel_rfl)) ?_
            try go_wp2
            go_ret2
            exact ⟨_, by first | rfl | (simp [errW_none, errW_some] <;> rfl) | (simp [*, errW_none, errW_some] <;> rfl), by (with_reducible repeat (first | apply Kd.R_alloc | apply Kd.R_drewN | apply Kd.R_drew)); exact Kd.R_mono (Kd.R_far (p := ⟨gb645, 2, none⟩) (Kd.R_far (p := ⟨gb645, 1, none⟩) (Kd.R_far (p := ⟨gb645, 0, none⟩) (Kd.R_mono HO_8.out (fun k_ hk => (⟨hk, hk.2⟩ : _ ∧ k_ ≠ gb645))) (fun _ hk => hk.2) (.int .i64 t641)) (fun _ hk => hk.2) (.int .i64 t642)) (fun _ hk => hk.2) (.int .i64 t643)) (fun _ hk => trivial), by repeat (first | (with_reducible first | exact HB.out | apply below_alloc | apply pw_below_drewN | apply below_drew1 | refine below_set ?_ GE635.out | refine below_set ?_ GE636.out | refine below_set ?_ GE645.out) | exact HB.out)⟩
        · rw [if_neg c11] at H
          exact absurd H (by simp)
      · rw [if_neg c10] at H
        have c10b0 : decide (x9_1 < (l2.length : Int)) = false := decide_eq_false c10
        clear c10
        simp only [Option.some.injEq, Prod.mk.injEq] at H
        obtain ⟨rfl, rfl⟩ := H
        go_wp2
        go_ret2
        exact ⟨_, by first | rfl | (simp [errW_none, errW_some] <;> rfl) | (simp [*, errW_none, errW_some] <;> rfl), by (with_reducible repeat (first | apply Kd.R_alloc | apply Kd.R_drewN | apply Kd.R_drew)); exact Kd.R_mono HO_8.out (fun _ hk => trivial), by repeat (first | (with_reducible first | exact HB.out | apply below_alloc | apply pw_below_drewN | apply below_drew1 | refine below_set ?_ GE635.out | refine below_set ?_ GE636.out) | exact HB.out)⟩

/-! ### laws_toDeveloper: function 71 -/
def laws_toDeveloper.f (a0_0 : Int) (a0_1 : Int) (a0_2 : Int) (a0_3 : Int) : Option (Int × Int × Int × Int) := some (a0_0, a0_1, a0_2, a0_3)
set_option maxHeartbeats 8000000 in
set_option maxRecDepth 100000 in
theorem laws_toDeveloper.calls (a0_0 : Int) (a0_1 : Int) (a0_2 : Int) (a0_3 : Int) (r1 : Int) (r2 : Int) (r3 : Int) (r4 : Int) (w : World) (h : laws_toDeveloper.f a0_0 a0_1 a0_2 a0_3 = some (r1, r2, r3, r4)) :
    Calls Try.prog 71 #[.agg #[.int .i64 a0_0, .int .i64 a0_1, .int .i8 a0_2, .int .i8 a0_3]] w fun e w' => e = .returned (.agg #[.int .i64 r1, .int .i64 r2, .int .i8 r3, .int .i8 r4]) ∧ Below w.heap.size w w' := by
  have hu92 := Try.underlying92
  have hu71 := Try.underlying71
  have HB := Aside0.mk (Below.refl w.heap.size w)
  have H : (some (a0_0, a0_1, a0_2, a0_3)) = some (r1, r2, r3, r4) := h
  clear h
  simp only [Option.some.injEq, Prod.mk.injEq] at H
  obtain ⟨rfl, rfl, rfl, rfl⟩ := H
  go_enter Try.func71, Try.ntmps71
  go_wp2_with (first | ((with_reducible refine gate_dst (N := 1) rfl ?_); refine box_event ?hg (N := 1) ?hd (cs := #[.int .i64 a0_0, .int .i64 a0_1, .int .i8 a0_2, .int .i8 a0_3]) (t := 92) ?hr ?_; (case hd => rfl); (case hg => rfl); (case hr => first | (go_simp; done) | (go_simp; rfl)); intro gb656 hg w2 hbox hb; have n0_ := Aside0.mk (below_step HB.out hb); have n1_ := Aside0.mk (hbox); have n2_ := Aside0.mk ((by rw [hg]; exact (below_size HB.out) : w.heap.size ≤ gb656)); have n3_ := Aside0.mk ((by rw [hg]; exact (below_size HB.out) : w.heap.size ≤ gb656)); clear HB; have HB := n0_; have BK656 := n1_; have GW656 := n2_; have GE656 := n3_; clear n0_ n1_ n2_ n3_; clear hb hbox hg) | ((with_reducible refine gate_dst (N := 2) rfl ?_); refine box_event ?hg (N := 2) ?hd (cs := #[.int .i64 0, .int .i64 0, .int .i8 0, .int .i8 0]) (t := 71) ?hr ?_; (case hd => rfl); (case hg => rfl); (case hr => first | (go_simp; done) | (go_simp; rfl)); intro gb657 hg w3 hbox hb; have n0_ := Aside0.mk (blk_below BK656.out hb); have n1_ := Aside0.mk (below_step HB.out hb); have n2_ := Aside0.mk (hbox); have n3_ := Aside0.mk ((by rw [hg]; exact (below_size HB.out) : w.heap.size ≤ gb657)); have n4_ := Aside0.mk ((by rw [hg]; exact (below_size HB.out) : w.heap.size ≤ gb657)); have n5_ := Aside0.mk ((by rw [hg]; exact Nat.ne_of_lt (blk_lt BK656.out) : gb656 ≠ gb657)); have n6_ := Aside0.mk ((by rw [hg]; exact Nat.ne_of_gt (blk_lt BK656.out) : gb657 ≠ gb656)); clear BK656; clear HB; have BK656 := n0_; have HB := n1_; have BK657 := n2_; have GW657 := n3_; have GE657 := n4_; have NB656_657 := n5_; have NB657_656 := n6_; clear n0_ n1_ n2_ n3_ n4_ n5_ n6_; clear hb hbox hg) | ((with_reducible refine gate_dst (N := 3) rfl ?_); refine box_event ?hg (N := 3) ?hd (cs := #[.int .i64 0, .int .i64 0, .int .i8 0, .int .i8 0]) (t := 71) ?hr ?_; (case hd => rfl); (case hg => rfl); (case hr => first | (go_simp; done) | (go_simp; rfl)); intro gb658 hg w4 hbox hb; have n0_ := Aside0.mk (blk_below BK656.out hb); have n1_ := Aside0.mk (blk_below BK657.out hb); have n2_ := Aside0.mk (below_step HB.out hb); have n3_ := Aside0.mk (hbox); have n4_ := Aside0.mk ((by rw [hg]; exact (below_size HB.out) : w.heap.size ≤ gb658)); have n5_ := Aside0.mk ((by rw [hg]; exact (below_size HB.out) : w.heap.size ≤ gb658)); have n6_ := Aside0.mk ((by rw [hg]; exact Nat.ne_of_lt (blk_lt BK656.out) : gb656 ≠ gb658)); have n7_ := Aside0.mk ((by rw [hg]; exact Nat.ne_of_gt (blk_lt BK656.out) : gb658 ≠ gb656)); have n8_ := Aside0.mk ((by rw [hg]; exact Nat.ne_of_lt (blk_lt BK657.out) : gb657 ≠ gb658)); have n9_ := Aside0.mk ((by rw [hg]; exact Nat.ne_of_gt (blk_lt BK657.out) : gb658 ≠ gb657)); clear BK656; clear BK657; clear HB; have BK656 := n0_; have BK657 := n1_; have HB := n2_; have BK658 := n3_; have GW658 := n4_; have GE658 := n5_; have NB656_658 := n6_; have NB658_656 := n7_; have NB657_658 := n8_; have NB658_657 := n9_; clear n0_ n1_ n2_ n3_ n4_ n5_ n6_ n7_ n8_ n9_; clear hb hbox hg; have hnb5 := NB656_657.out; have hnc5 := NB657_656.out; have hnb6 := NB656_658.out; have hnc6 := NB658_656.out; have hcz7_0 : w4.cell? ⟨gb656, 0, none⟩ = some (.int .i64 a0_0) := (blk_cell BK656.out 0).trans rfl; have hcz7_1 : w4.cell? ⟨gb656, 1, none⟩ = some (.int .i64 a0_1) := (blk_cell BK656.out 1).trans rfl; have hcz7_2 : w4.cell? ⟨gb656, 2, none⟩ = some (.int .i8 a0_2) := (blk_cell BK656.out 2).trans rfl; have hcz7_3 : w4.cell? ⟨gb656, 3, none⟩ = some (.int .i8 a0_3) := (blk_cell BK656.out 3).trans rfl; have hfz7_0 := blk_frozen BK656.out 0; have hfz7_1 := blk_frozen BK656.out 1; have hfz7_2 := blk_frozen BK656.out 2; have hfz7_3 := blk_frozen BK656.out 3; have hnb8 := NB658_657.out; have hnc8 := NB657_658.out; have hcz9_0 : w4.cell? ⟨gb658, 0, none⟩ = some (.int .i64 0) := (blk_cell BK658.out 0).trans rfl; have hcz9_1 : w4.cell? ⟨gb658, 1, none⟩ = some (.int .i64 0) := (blk_cell BK658.out 1).trans rfl; have hcz9_2 : w4.cell? ⟨gb658, 2, none⟩ = some (.int .i8 0) := (blk_cell BK658.out 2).trans rfl; have hcz9_3 : w4.cell? ⟨gb658, 3, none⟩ = some (.int .i8 0) := (blk_cell BK658.out 3).trans rfl; have hfz9_0 := blk_frozen BK658.out 0; have hfz9_1 := blk_frozen BK658.out 1; have hfz9_2 := blk_frozen BK658.out 2; have hfz9_3 := blk_frozen BK658.out 3; have hcz10_0 : w4.cell? ⟨gb657, 0, none⟩ = some (.int .i64 0) := (blk_cell BK657.out 0).trans rfl; have hcz10_1 : w4.cell? ⟨gb657, 1, none⟩ = some (.int .i64 0) := (blk_cell BK657.out 1).trans rfl; have hcz10_2 : w4.cell? ⟨gb657, 2, none⟩ = some (.int .i8 0) := (blk_cell BK657.out 2).trans rfl; have hcz10_3 : w4.cell? ⟨gb657, 3, none⟩ = some (.int .i8 0) := (blk_cell BK657.out 3).trans rfl; have hfz10_0 := blk_frozen BK657.out 0; have hfz10_1 := blk_frozen BK657.out 1; have hfz10_2 := blk_frozen BK657.out 2; have hfz10_3 := blk_frozen BK657.out 3))
  refine bodyPost_ret (results_cell_row rfl _ _ gb657 71 #[.int .i64 a0_0, .int .i64 a0_1, .int .i8 a0_2, .int .i8 a0_3] (0, 0) _ rfl (by (with_reducible repeat (first | refine blk_drewN ?_ _ | refine blk_drew ?_ | refine blk_alloc ?_ _)); refine blk_put (cs := #[.int .i64 a0_0, .int .i64 a0_1, .int .i8 a0_2, .int .i8 0]) ?_ 3 _ rfl; (with_reducible repeat (first | refine blk_drewN ?_ _ | refine blk_drew ?_ | refine blk_alloc ?_ _)); refine blk_put (cs := #[.int .i64 a0_0, .int .i64 a0_1, .int .i8 0, .int .i8 0]) ?_ 2 _ rfl; (with_reducible repeat (first | refine blk_drewN ?_ _ | refine blk_drew ?_ | refine blk_alloc ?_ _)); refine blk_put (cs := #[.int .i64 a0_0, .int .i64 0, .int .i8 0, .int .i8 0]) ?_ 1 _ rfl; (with_reducible repeat (first | refine blk_drewN ?_ _ | refine blk_drew ?_ | refine blk_alloc ?_ _)); refine blk_put (cs := #[.int .i64 0, .int .i64 0, .int .i8 0, .int .i8 0]) ?_ 0 _ rfl; (with_reducible repeat (first | refine blk_drewN ?_ _ | refine blk_drew ?_ | refine blk_alloc ?_ _)); refine blk_far ?_ NB657_658.out _; (with_reducible repeat (first | refine blk_drewN ?_ _ | refine blk_drew ?_ | refine blk_alloc ?_ _)); refine blk_far ?_ NB657_658.out _; (with_reducible repeat (first | refine blk_drewN ?_ _ | refine blk_drew ?_ | refine blk_alloc ?_ _)); refine blk_far ?_ NB657_658.out _; (with_reducible repeat (first | refine blk_drewN ?_ _ | refine blk_drew ?_ | refine blk_alloc ?_ _)); refine blk_far ?_ NB657_658.out _; (with_reducible repeat (first | refine blk_drewN ?_ _ | refine blk_drew ?_ | refine blk_alloc ?_ _)); exact BK657.out) Try.underlying71 rfl (by kernel_rfl)) rfl ?_
  exact ⟨by first | rfl | (simp [errW_none, errW_some] <;> rfl) | (simp [*, errW_none, errW_some] <;> rfl), by repeat (first | (with_reducible first | exact HB.out | apply below_alloc | apply pw_below_drewN | apply below_drew1 | refine below_set ?_ GE656.out | refine below_set ?_ GE657.out | refine below_set ?_ GE658.out) | exact HB.out)⟩

/-! ### laws_toBath: function 72 -/
def laws_toBath.f (a0_0 : Int) (a0_1 : Int) (a0_2 : Int) : Option (Int × Int × Int) := some (a0_0, a0_1, a0_2)
set_option maxHeartbeats 8000000 in
set_option maxRecDepth 100000 in
theorem laws_toBath.calls (a0_0 : Int) (a0_1 : Int) (a0_2 : Int) (r1 : Int) (r2 : Int) (r3 : Int) (w : World) (h : laws_toBath.f a0_0 a0_1 a0_2 = some (r1, r2, r3)) :
    Calls Try.prog 72 #[.agg #[.int .i64 a0_0, .int .i64 a0_1, .int .i64 a0_2]] w fun e w' => e = .returned (.agg #[.int .i64 r1, .int .i64 r2, .int .i64 r3]) ∧ Below w.heap.size w w' := by
  have hu93 := Try.underlying93
  have hu73 := Try.underlying73
  have HB := Aside0.mk (Below.refl w.heap.size w)
  have H : (some (a0_0, a0_1, a0_2)) = some (r1, r2, r3) := h
  clear h
  simp only [Option.some.injEq, Prod.mk.injEq] at H
  obtain ⟨rfl, rfl, rfl⟩ := H
  go_enter Try.func72, Try.ntmps72
  go_wp2_with (first | ((with_reducible refine gate_dst (N := 1) rfl ?_); refine box_event ?hg (N := 1) ?hd (cs := #[.int .i64 a0_0, .int .i64 a0_1, .int .i64 a0_2]) (t := 93) ?hr ?_; (case hd => rfl); (case hg => rfl); (case hr => first | (go_simp; done) | (go_simp; rfl)); intro gb659 hg w2 hbox hb; have n0_ := Aside0.mk (below_step HB.out hb); have n1_ := Aside0.mk (hbox); have n2_ := Aside0.mk ((by rw [hg]; exact (below_size HB.out) : w.heap.size ≤ gb659)); have n3_ := Aside0.mk ((by rw [hg]; exact (below_size HB.out) : w.heap.size ≤ gb659)); clear HB; have HB := n0_; have BK659 := n1_; have GW659 := n2_; have GE659 := n3_; clear n0_ n1_ n2_ n3_; clear hb hbox hg) | ((with_reducible refine gate_dst (N := 2) rfl ?_); refine box_event ?hg (N := 2) ?hd (cs := #[.int .i64 0, .int .i64 0, .int .i64 0]) (t := 73) ?hr ?_; (case hd => rfl); (case hg => rfl); (case hr => first | (go_simp; done) | (go_simp; rfl)); intro gb660 hg w3 hbox hb; have n0_ := Aside0.mk (blk_below BK659.out hb); have n1_ := Aside0.mk (below_step HB.out hb); have n2_ := Aside0.mk (hbox); have n3_ := Aside0.mk ((by rw [hg]; exact (below_size HB.out) : w.heap.size ≤ gb660)); have n4_ := Aside0.mk ((by rw [hg]; exact (below_size HB.out) : w.heap.size ≤ gb660)); have n5_ := Aside0.mk ((by rw [hg]; exact Nat.ne_of_lt (blk_lt BK659.out) : gb659 ≠ gb660)); have n6_ := Aside0.mk ((by rw [hg]; exact Nat.ne_of_gt (blk_lt BK659.out) : gb660 ≠ gb659)); clear BK659; clear HB; have BK659 := n0_; have HB := n1_; have BK660 := n2_; have GW660 := n3_; have GE660 := n4_; have NB659_660 := n5_; have NB660_659 := n6_; clear n0_ n1_ n2_ n3_ n4_ n5_ n6_; clear hb hbox hg) | ((with_reducible refine gate_dst (N := 3) rfl ?_); refine box_event ?hg (N := 3) ?hd (cs := #[.int .i64 0, .int .i64 0, .int .i64 0]) (t := 73) ?hr ?_; (case hd => rfl); (case hg => rfl); (case hr => first | (go_simp; done) | (go_simp; rfl)); intro gb661 hg w4 hbox hb; have n0_ := Aside0.mk (blk_below BK659.out hb); have n1_ := Aside0.mk (blk_below BK660.out hb); have n2_ := Aside0.mk (below_step HB.out hb); have n3_ := Aside0.mk (hbox); have n4_ := Aside0.mk ((by rw [hg]; exact (below_size HB.out) : w.heap.size ≤ gb661)); have n5_ := Aside0.mk ((by rw [hg]; exact (below_size HB.out) : w.heap.size ≤ gb661)); have n6_ := Aside0.mk ((by rw [hg]; exact Nat.ne_of_lt (blk_lt BK659.out) : gb659 ≠ gb661)); have n7_ := Aside0.mk ((by rw [hg]; exact Nat.ne_of_gt (blk_lt BK659.out) : gb661 ≠ gb659)); have n8_ := Aside0.mk ((by rw [hg]; exact Nat.ne_of_lt (blk_lt BK660.out) : gb660 ≠ gb661)); have n9_ := Aside0.mk ((by rw [hg]; exact Nat.ne_of_gt (blk_lt BK660.out) : gb661 ≠ gb660)); clear BK659; clear BK660; clear HB; have BK659 := n0_; have BK660 := n1_; have HB := n2_; have BK661 := n3_; have GW661 := n4_; have GE661 := n5_; have NB659_661 := n6_; have NB661_659 := n7_; have NB660_661 := n8_; have NB661_660 := n9_; clear n0_ n1_ n2_ n3_ n4_ n5_ n6_ n7_ n8_ n9_; clear hb hbox hg; have hnb5 := NB659_660.out; have hnc5 := NB660_659.out; have hnb6 := NB659_661.out; have hnc6 := NB661_659.out; have hcz7_0 : w4.cell? ⟨gb659, 0, none⟩ = some (.int .i64 a0_0) := (blk_cell BK659.out 0).trans rfl; have hcz7_1 : w4.cell? ⟨gb659, 1, none⟩ = some (.int .i64 a0_1) := (blk_cell BK659.out 1).trans rfl; have hcz7_2 : w4.cell? ⟨gb659, 2, none⟩ = some (.int .i64 a0_2) := (blk_cell BK659.out 2).trans rfl; have hfz7_0 := blk_frozen BK659.out 0; have hfz7_1 := blk_frozen BK659.out 1; have hfz7_2 := blk_frozen BK659.out 2; have hnb8 := NB661_660.out; have hnc8 := NB660_661.out; have hcz9_0 : w4.cell? ⟨gb661, 0, none⟩ = some (.int .i64 0) := (blk_cell BK661.out 0).trans rfl; have hcz9_1 : w4.cell? ⟨gb661, 1, none⟩ = some (.int .i64 0) := (blk_cell BK661.out 1).trans rfl; have hcz9_2 : w4.cell? ⟨gb661, 2, none⟩ = some (.int .i64 0) := (blk_cell BK661.out 2).trans rfl; have hfz9_0 := blk_frozen BK661.out 0; have hfz9_1 := blk_frozen BK661.out 1; have hfz9_2 := blk_frozen BK661.out 2; have hcz10_0 : w4.cell? ⟨gb660, 0, none⟩ = some (.int .i64 0) := (blk_cell BK660.out 0).trans rfl; have hcz10_1 : w4.cell? ⟨gb660, 1, none⟩ = some (.int .i64 0) := (blk_cell BK660.out 1).trans rfl; have hcz10_2 : w4.cell? ⟨gb660, 2, none⟩ = some (.int .i64 0) := (blk_cell BK660.out 2).trans rfl; have hfz10_0 := blk_frozen BK660.out 0; have hfz10_1 := blk_frozen BK660.out 1; have hfz10_2 := blk_frozen BK660.out 2))
  refine bodyPost_ret (results_cell_row rfl _ _ gb660 73 #[.int .i64 a0_0, .int .i64 a0_1, .int .i64 a0_2] (0, 0) _ rfl (by (with_reducible repeat (first | refine blk_drewN ?_ _ | refine blk_drew ?_ | refine blk_alloc ?_ _)); refine blk_put (cs := #[.int .i64 a0_0, .int .i64 a0_1, .int .i64 0]) ?_ 2 _ rfl; (with_reducible repeat (first | refine blk_drewN ?_ _ | refine blk_drew ?_ | refine blk_alloc ?_ _)); refine blk_put (cs := #[.int .i64 a0_0, .int .i64 0, .int .i64 0]) ?_ 1 _ rfl; (with_reducible repeat (first | refine blk_drewN ?_ _ | refine blk_drew ?_ | refine blk_alloc ?_ _)); refine blk_put (cs := #[.int .i64 0, .int .i64 0, .int .i64 0]) ?_ 0 _ rfl; (with_reducible repeat (first | refine blk_drewN ?_ _ | refine blk_drew ?_ | refine blk_alloc ?_ _)); refine blk_far ?_ NB660_661.out _; (with_reducible repeat (first | refine blk_drewN ?_ _ | refine blk_drew ?_ | refine blk_alloc ?_ _)); refine blk_far ?_ NB660_661.out _; (with_reducible repeat (first | refine blk_drewN ?_ _ | refine blk_drew ?_ | refine blk_alloc ?_ _)); refine blk_far ?_ NB660_661.out _; (with_reducible repeat (first | refine blk_drewN ?_ _ | refine blk_drew ?_ | refine blk_alloc ?_ _)); exact BK660.out) Try.underlying73 rfl (by kernel_rfl)) rfl ?_
  exact ⟨by first | rfl | (simp [errW_none, errW_some] <;> rfl) | (simp [*, errW_none, errW_some] <;> rfl), by repeat (first | (with_reducible first | exact HB.out | apply below_alloc | apply pw_below_drewN | apply below_drew1 | refine below_set ?_ GE659.out | refine below_set ?_ GE660.out | refine below_set ?_ GE661.out) | exact HB.out)⟩

/-! ### laws_toAct: function 144 -/
def laws_toAct.f (a0_0 : Int) (a0_1 : Int) : Option (Int × Int) := some (a0_0, a0_1)
set_option maxHeartbeats 8000000 in
set_option maxRecDepth 100000 in
theorem laws_toAct.calls (a0_0 : Int) (a0_1 : Int) (r1 : Int) (r2 : Int) (w : World) (h : laws_toAct.f a0_0 a0_1 = some (r1, r2)) :
    Calls Try.prog 144 #[.agg #[.int .i8 a0_0, .int .i64 a0_1]] w fun e w' => e = .returned (.agg #[.int .i8 r1, .int .i64 r2]) ∧ Below w.heap.size w w' := by
  have hu163 := Try.underlying163
  have hu161 := Try.underlying161
  have HB := Aside0.mk (Below.refl w.heap.size w)
  have H : (some (a0_0, a0_1)) = some (r1, r2) := h
  clear h
  simp only [Option.some.injEq, Prod.mk.injEq] at H
  obtain ⟨rfl, rfl⟩ := H
  go_enter Try.func144, Try.ntmps144
  go_wp2_with (first | ((with_reducible refine gate_dst (N := 1) rfl ?_); refine box_event ?hg (N := 1) ?hd (cs := #[.int .i8 a0_0, .int .i64 a0_1]) (t := 163) ?hr ?_; (case hd => rfl); (case hg => rfl); (case hr => first | (go_simp; done) | (go_simp; rfl)); intro gb662 hg w2 hbox hb; have n0_ := Aside0.mk (below_step HB.out hb); have n1_ := Aside0.mk (hbox); have n2_ := Aside0.mk ((by rw [hg]; exact (below_size HB.out) : w.heap.size ≤ gb662)); have n3_ := Aside0.mk ((by rw [hg]; exact (below_size HB.out) : w.heap.size ≤ gb662)); clear HB; have HB := n0_; have BK662 := n1_; have GW662 := n2_; have GE662 := n3_; clear n0_ n1_ n2_ n3_; clear hb hbox hg) | ((with_reducible refine gate_dst (N := 2) rfl ?_); refine box_event ?hg (N := 2) ?hd (cs := #[.int .i8 0, .int .i64 0]) (t := 161) ?hr ?_; (case hd => rfl); (case hg => rfl); (case hr => first | (go_simp; done) | (go_simp; rfl)); intro gb663 hg w3 hbox hb; have n0_ := Aside0.mk (blk_below BK662.out hb); have n1_ := Aside0.mk (below_step HB.out hb); have n2_ := Aside0.mk (hbox); have n3_ := Aside0.mk ((by rw [hg]; exact (below_size HB.out) : w.heap.size ≤ gb663)); have n4_ := Aside0.mk ((by rw [hg]; exact (below_size HB.out) : w.heap.size ≤ gb663)); have n5_ := Aside0.mk ((by rw [hg]; exact Nat.ne_of_lt (blk_lt BK662.out) : gb662 ≠ gb663)); have n6_ := Aside0.mk ((by rw [hg]; exact Nat.ne_of_gt (blk_lt BK662.out) : gb663 ≠ gb662)); clear BK662; clear HB; have BK662 := n0_; have HB := n1_; have BK663 := n2_; have GW663 := n3_; have GE663 := n4_; have NB662_663 := n5_; have NB663_662 := n6_; clear n0_ n1_ n2_ n3_ n4_ n5_ n6_; clear hb hbox hg) | ((with_reducible refine gate_dst (N := 3) rfl ?_); refine box_event ?hg (N := 3) ?hd (cs := #[.int .i8 0, .int .i64 0]) (t := 161) ?hr ?_; (case hd => rfl); (case hg => rfl); (case hr => first | (go_simp; done) | (go_simp; rfl)); intro gb664 hg w4 hbox hb; have n0_ := Aside0.mk (blk_below BK662.out hb); have n1_ := Aside0.mk (blk_below BK663.out hb); have n2_ := Aside0.mk (below_step HB.out hb); have n3_ := Aside0.mk (hbox); have n4_ := Aside0.mk ((by rw [hg]; exact (below_size HB.out) : w.heap.size ≤ gb664)); have n5_ := Aside0.mk ((by rw [hg]; exact (below_size HB.out) : w.heap.size ≤ gb664)); have n6_ := Aside0.mk ((by rw [hg]; exact Nat.ne_of_lt (blk_lt BK662.out) : gb662 ≠ gb664)); have n7_ := Aside0.mk ((by rw [hg]; exact Nat.ne_of_gt (blk_lt BK662.out) : gb664 ≠ gb662)); have n8_ := Aside0.mk ((by rw [hg]; exact Nat.ne_of_lt (blk_lt BK663.out) : gb663 ≠ gb664)); have n9_ := Aside0.mk ((by rw [hg]; exact Nat.ne_of_gt (blk_lt BK663.out) : gb664 ≠ gb663)); clear BK662; clear BK663; clear HB; have BK662 := n0_; have BK663 := n1_; have HB := n2_; have BK664 := n3_; have GW664 := n4_; have GE664 := n5_; have NB662_664 := n6_; have NB664_662 := n7_; have NB663_664 := n8_; have NB664_663 := n9_; clear n0_ n1_ n2_ n3_ n4_ n5_ n6_ n7_ n8_ n9_; clear hb hbox hg; have hnb5 := NB662_663.out; have hnc5 := NB663_662.out; have hnb6 := NB662_664.out; have hnc6 := NB664_662.out; have hcz7_0 : w4.cell? ⟨gb662, 0, none⟩ = some (.int .i8 a0_0) := (blk_cell BK662.out 0).trans rfl; have hcz7_1 : w4.cell? ⟨gb662, 1, none⟩ = some (.int .i64 a0_1) := (blk_cell BK662.out 1).trans rfl; have hfz7_0 := blk_frozen BK662.out 0; have hfz7_1 := blk_frozen BK662.out 1; have hnb8 := NB664_663.out; have hnc8 := NB663_664.out; have hcz9_0 : w4.cell? ⟨gb664, 0, none⟩ = some (.int .i8 0) := (blk_cell BK664.out 0).trans rfl; have hcz9_1 : w4.cell? ⟨gb664, 1, none⟩ = some (.int .i64 0) := (blk_cell BK664.out 1).trans rfl; have hfz9_0 := blk_frozen BK664.out 0; have hfz9_1 := blk_frozen BK664.out 1; have hcz10_0 : w4.cell? ⟨gb663, 0, none⟩ = some (.int .i8 0) := (blk_cell BK663.out 0).trans rfl; have hcz10_1 : w4.cell? ⟨gb663, 1, none⟩ = some (.int .i64 0) := (blk_cell BK663.out 1).trans rfl; have hfz10_0 := blk_frozen BK663.out 0; have hfz10_1 := blk_frozen BK663.out 1))
  refine bodyPost_ret (results_cell_row rfl _ _ gb663 161 #[.int .i8 a0_0, .int .i64 a0_1] (0, 0) _ rfl (by (with_reducible repeat (first | refine blk_drewN ?_ _ | refine blk_drew ?_ | refine blk_alloc ?_ _)); refine blk_put (cs := #[.int .i8 a0_0, .int .i64 0]) ?_ 1 _ rfl; (with_reducible repeat (first | refine blk_drewN ?_ _ | refine blk_drew ?_ | refine blk_alloc ?_ _)); refine blk_put (cs := #[.int .i8 0, .int .i64 0]) ?_ 0 _ rfl; (with_reducible repeat (first | refine blk_drewN ?_ _ | refine blk_drew ?_ | refine blk_alloc ?_ _)); refine blk_far ?_ NB663_664.out _; (with_reducible repeat (first | refine blk_drewN ?_ _ | refine blk_drew ?_ | refine blk_alloc ?_ _)); refine blk_far ?_ NB663_664.out _; (with_reducible repeat (first | refine blk_drewN ?_ _ | refine blk_drew ?_ | refine blk_alloc ?_ _)); exact BK663.out) Try.underlying161 rfl (by kernel_rfl)) rfl ?_
  exact ⟨by first | rfl | (simp [errW_none, errW_some] <;> rfl) | (simp [*, errW_none, errW_some] <;> rfl), by repeat (first | (with_reducible first | exact HB.out | apply below_alloc | apply pw_below_drewN | apply below_drew1 | refine below_set ?_ GE662.out | refine below_set ?_ GE663.out | refine below_set ?_ GE664.out) | exact HB.out)⟩

end Go.Proofs.Ytcimollhdocphaa.Q
