-- Written by wip/mk.py of this repository (a run of the kit's print with hand-proved leaves added); Lean checks it.
import Derived.Test.YtldhgldknefjdaaQx0
import Derived.Test.YtldhgldknefjdaaQx2
import Derived.Test.YtldhgldknefjdaaQx6
import Derived.Test.YtldhgldknefjdaaQx11
import Derived.Test.YtldhgldknefjdaaQx13
namespace Go.Proofs.Ytldhgldknefjdaa.Q
open Go.RowKit Go.Proofs.YtldhgldknefjdaaW.PrintWords Go.Proofs.YtldhgldknefjdaaW.PrintLast Go.Proofs.YtldhgldknefjdaaW.PrintMore
attribute [local go_sem] max2_int min2_int max_two min_two max_three min_three max_four min_four   -- for this text's walks alone
set_option linter.unusedVariables false
set_option linter.unusedSimpArgs false

/-! ### spec_LeastReplenished: function 43 -/
mutual
def spec_LeastReplenished.l0 : Nat → List Int → Int → List Int → Int → Int → Int → Int → Int → Int → Int → Int → Int → Option (List Int × Int × Int)
  | 0, _, _, _, _, _, _, _, _, _, _, _, _ => none
  | k + 1, x2, x3, x12, x13, x14, x466000, x466001, x466002, x466003, x467000, x467001, x467002 => if x14 < (x2.length : Int) then (if 0 ≤ x14 then ((spec_l04Ready.f k x466000 x466001 x466002 x466003 x467000 x467001 x467002 (rd x2 x14) x3).bind fun bt475 => (spec_LeastReplenished.l1 k x2 x3 x12 x13 x14 0 bt475.2.2.2 x466000 x466001 x466002 x466003 x467000 x467001 x467002 bt475.1 bt475.2.1 bt475.2.2.1)) else (none)) else (some (x12, x13, 0))
def spec_LeastReplenished.l1 : Nat → List Int → Int → List Int → Int → Int → Int → Bool → Int → Int → Int → Int → Int → Int → Int → Int → Int → Int → Option (List Int × Int × Int)
  | 0, _, _, _, _, _, _, _, _, _, _, _, _, _, _, _, _, _ => none
  | k + 1, x2, x3, x12, x13, x14, x15, x17, x466000, x466001, x466002, x466003, x467000, x467001, x467002, x480000, x480001, x480002 => if x17 = true then (spec_LeastReplenished.j2 k x2 x3 x12 x13 x14 x15 x17 false x466000 x466001 x466002 x466003 x467000 x467001 x467002 x480000 x480001 x480002) else (spec_LeastReplenished.j2 k x2 x3 x12 x13 x14 x15 x17 (decide (x15 < x467000)) x466000 x466001 x466002 x466003 x467000 x467001 x467002 x480000 x480001 x480002)
def spec_LeastReplenished.j2 : Nat → List Int → Int → List Int → Int → Int → Int → Bool → Bool → Int → Int → Int → Int → Int → Int → Int → Int → Int → Int → Option (List Int × Int × Int)
  | 0, _, _, _, _, _, _, _, _, _, _, _, _, _, _, _, _, _, _ => none
  | k + 1, x2, x3, x12, x13, x14, x15, x17, x52, x466000, x466001, x466002, x466003, x467000, x467001, x467002, x480000, x480001, x480002 => if x52 = true then ((spec_l04Fill.f x467000 x467001 x467002 (wrap64 (x15 + 1))).bind fun bt480 => (if 0 ≤ x14 then (if x14 < (x2.length : Int) then ((spec_l04Ready.f k x466000 x466001 x466002 x466003 bt480.1 bt480.2.1 bt480.2.2 (rd x2 x14) x3).bind fun bt484 => (spec_LeastReplenished.l1 k x2 x3 x12 x13 x14 (wrap64 (x15 + 1)) bt484.2.2.2 x466000 x466001 x466002 x466003 x467000 x467001 x467002 bt484.1 bt484.2.1 bt484.2.2.1)) else (none)) else (none))) else (if x17 = true then (if x12.length < 17592186044416 then (spec_LeastReplenished.l0 k x2 x3 (x12 ++ [x15]) (wrap64 (x13 + x15)) (wrap64 (x14 + 1)) x466000 x466001 x466002 x466003 x480000 x480001 x480002) else (none)) else (some ((([] : List Int)), 0, 6)))
end
def spec_LeastReplenished.f (k : Nat) (a0_0 : Int) (a0_1 : Int) (a0_2 : Int) (a0_3 : Int) (a1_0 : Int) (a1_1 : Int) (a1_2 : Int) (l2 : List Int) (a3 : Int) : Option (List Int × Int × Int) := (spec_l04Areas.f k a0_0 a0_1 a0_2 a0_3 a1_0 a1_1 a1_2 l2 a3).bind fun t467 => (if t467 = 0 then (spec_LeastReplenished.l0 k l2 a3 (([] : List Int)) 0 0 a0_0 a0_1 a0_2 a0_3 a1_0 a1_1 a1_2) else (some ((([] : List Int)), 0, t467)))
theorem spec_LeastReplenished.mono_l : ∀ k, (∀ y0 y1 y2 y3 y4 y5 y6 y7 y8 y9 y10 y11, LeO (spec_LeastReplenished.l0 k y0 y1 y2 y3 y4 y5 y6 y7 y8 y9 y10 y11) (spec_LeastReplenished.l0 (k + 1) y0 y1 y2 y3 y4 y5 y6 y7 y8 y9 y10 y11)) ∧ (∀ y0 y1 y2 y3 y4 y5 y6 y7 y8 y9 y10 y11 y12 y13 y14 y15 y16, LeO (spec_LeastReplenished.l1 k y0 y1 y2 y3 y4 y5 y6 y7 y8 y9 y10 y11 y12 y13 y14 y15 y16) (spec_LeastReplenished.l1 (k + 1) y0 y1 y2 y3 y4 y5 y6 y7 y8 y9 y10 y11 y12 y13 y14 y15 y16)) ∧ (∀ y0 y1 y2 y3 y4 y5 y6 y7 y8 y9 y10 y11 y12 y13 y14 y15 y16 y17, LeO (spec_LeastReplenished.j2 k y0 y1 y2 y3 y4 y5 y6 y7 y8 y9 y10 y11 y12 y13 y14 y15 y16 y17) (spec_LeastReplenished.j2 (k + 1) y0 y1 y2 y3 y4 y5 y6 y7 y8 y9 y10 y11 y12 y13 y14 y15 y16 y17))
  | 0 => ⟨fun _ _ _ _ _ _ _ _ _ _ _ _ r h => by simp [spec_LeastReplenished.l0] at h, fun _ _ _ _ _ _ _ _ _ _ _ _ _ _ _ _ _ r h => by simp [spec_LeastReplenished.l1] at h, fun _ _ _ _ _ _ _ _ _ _ _ _ _ _ _ _ _ _ r h => by simp [spec_LeastReplenished.j2] at h⟩
  | k + 1 => by
    obtain ⟨ih0, ih1, ih2⟩ := spec_LeastReplenished.mono_l k
    refine ⟨?_, ?_, ?_⟩
    · intro y0 y1 y2 y3 y4 y5 y6 y7 y8 y9 y10 y11
      unfold spec_LeastReplenished.l0
      repeat' first
      | (with_reducible exact ih0 _ _ _ _ _ _ _ _ _ _ _ _)
      | (with_reducible exact ih1 _ _ _ _ _ _ _ _ _ _ _ _ _ _ _ _ _)
      | (with_reducible exact ih2 _ _ _ _ _ _ _ _ _ _ _ _ _ _ _ _ _ _)
      | (with_reducible exact spec_l04Areas.mono _ _ _ _ _ _ _ _ _ _)
      | (with_reducible exact spec_l04Ready.mono _ _ _ _ _ _ _ _ _ _)
      | (with_reducible exact LeO.refl _)
      | (with_reducible exact LeO.none _)
      | (with_reducible refine LeO.ite ?_ ?_)
      | (with_reducible refine LeO.bind ?_ (fun _ => ?_))
      | exact ih0 _ _ _ _ _ _ _ _ _ _ _ _
      | exact ih1 _ _ _ _ _ _ _ _ _ _ _ _ _ _ _ _ _
      | exact ih2 _ _ _ _ _ _ _ _ _ _ _ _ _ _ _ _ _ _
      | exact spec_l04Areas.mono _ _ _ _ _ _ _ _ _ _
      | exact spec_l04Ready.mono _ _ _ _ _ _ _ _ _ _
      | exact LeO.none _
      | refine LeO.ite ?_ ?_
      | refine LeO.bind ?_ (fun _ => ?_)
    · intro y0 y1 y2 y3 y4 y5 y6 y7 y8 y9 y10 y11 y12 y13 y14 y15 y16
      unfold spec_LeastReplenished.l1
      repeat' first
      | (with_reducible exact ih0 _ _ _ _ _ _ _ _ _ _ _ _)
      | (with_reducible exact ih1 _ _ _ _ _ _ _ _ _ _ _ _ _ _ _ _ _)
      | (with_reducible exact ih2 _ _ _ _ _ _ _ _ _ _ _ _ _ _ _ _ _ _)
      | (with_reducible exact spec_l04Areas.mono _ _ _ _ _ _ _ _ _ _)
      | (with_reducible exact spec_l04Ready.mono _ _ _ _ _ _ _ _ _ _)
      | (with_reducible exact LeO.refl _)
      | (with_reducible exact LeO.none _)
      | (with_reducible refine LeO.ite ?_ ?_)
      | (with_reducible refine LeO.bind ?_ (fun _ => ?_))
      | exact ih0 _ _ _ _ _ _ _ _ _ _ _ _
      | exact ih1 _ _ _ _ _ _ _ _ _ _ _ _ _ _ _ _ _
      | exact ih2 _ _ _ _ _ _ _ _ _ _ _ _ _ _ _ _ _ _
      | exact spec_l04Areas.mono _ _ _ _ _ _ _ _ _ _
      | exact spec_l04Ready.mono _ _ _ _ _ _ _ _ _ _
      | exact LeO.none _
      | refine LeO.ite ?_ ?_
      | refine LeO.bind ?_ (fun _ => ?_)
    · intro y0 y1 y2 y3 y4 y5 y6 y7 y8 y9 y10 y11 y12 y13 y14 y15 y16 y17
      unfold spec_LeastReplenished.j2
      repeat' first
      | (with_reducible exact ih0 _ _ _ _ _ _ _ _ _ _ _ _)
      | (with_reducible exact ih1 _ _ _ _ _ _ _ _ _ _ _ _ _ _ _ _ _)
      | (with_reducible exact ih2 _ _ _ _ _ _ _ _ _ _ _ _ _ _ _ _ _ _)
      | (with_reducible exact spec_l04Areas.mono _ _ _ _ _ _ _ _ _ _)
      | (with_reducible exact spec_l04Ready.mono _ _ _ _ _ _ _ _ _ _)
      | (with_reducible exact LeO.refl _)
      | (with_reducible exact LeO.none _)
      | (with_reducible refine LeO.ite ?_ ?_)
      | (with_reducible refine LeO.bind ?_ (fun _ => ?_))
      | exact ih0 _ _ _ _ _ _ _ _ _ _ _ _
      | exact ih1 _ _ _ _ _ _ _ _ _ _ _ _ _ _ _ _ _
      | exact ih2 _ _ _ _ _ _ _ _ _ _ _ _ _ _ _ _ _ _
      | exact spec_l04Areas.mono _ _ _ _ _ _ _ _ _ _
      | exact spec_l04Ready.mono _ _ _ _ _ _ _ _ _ _
      | exact LeO.none _
      | refine LeO.ite ?_ ?_
      | refine LeO.bind ?_ (fun _ => ?_)
theorem spec_LeastReplenished.mono : ∀ a0 a1 a2 a3 a4 a5 a6 a7 a8 k, LeO (spec_LeastReplenished.f k a0 a1 a2 a3 a4 a5 a6 a7 a8) (spec_LeastReplenished.f (k + 1) a0 a1 a2 a3 a4 a5 a6 a7 a8) := by
  intro a0 a1 a2 a3 a4 a5 a6 a7 a8 k
  obtain ⟨ih0, ih1, ih2⟩ := spec_LeastReplenished.mono_l k
  unfold spec_LeastReplenished.f
  repeat' first
      | (with_reducible exact ih0 _ _ _ _ _ _ _ _ _ _ _ _)
      | (with_reducible exact ih1 _ _ _ _ _ _ _ _ _ _ _ _ _ _ _ _ _)
      | (with_reducible exact ih2 _ _ _ _ _ _ _ _ _ _ _ _ _ _ _ _ _ _)
      | (with_reducible exact spec_l04Areas.mono _ _ _ _ _ _ _ _ _ _)
      | (with_reducible exact spec_l04Ready.mono _ _ _ _ _ _ _ _ _ _)
      | (with_reducible exact LeO.refl _)
      | (with_reducible exact LeO.none _)
      | (with_reducible refine LeO.ite ?_ ?_)
      | (with_reducible refine LeO.bind ?_ (fun _ => ?_))
      | exact ih0 _ _ _ _ _ _ _ _ _ _ _ _
      | exact ih1 _ _ _ _ _ _ _ _ _ _ _ _ _ _ _ _ _
      | exact ih2 _ _ _ _ _ _ _ _ _ _ _ _ _ _ _ _ _ _
      | exact spec_l04Areas.mono _ _ _ _ _ _ _ _ _ _
      | exact spec_l04Ready.mono _ _ _ _ _ _ _ _ _ _
      | exact LeO.none _
      | refine LeO.ite ?_ ?_
      | refine LeO.bind ?_ (fun _ => ?_)
def spec_LeastReplenished.T10 : Bool × List (List Nat × List Nat) := (true, [([], []), ([], []), ([], []), ([], []), ([2, 3], [2, 3]), ([4], [4]), ([], []), ([0, 1, 5, 6], [0, 1, 5, 6]), ([7], [7]), ([8], [8]), ([8], [8]), ([], []), ([11, 9, 7, 0, 1, 2, 3, 4, 5, 6, 7, 8, 9, 11], [9, 11]), ([10, 12, 0, 1, 2, 3, 4, 5, 6, 7, 8, 9, 10, 11, 12], [10])])
def spec_LeastReplenished.B10 : List Nat := [0, 0, 0, 0, 12, 28, 0, 127, 255, 511, 511, 0, 3071, 8191]
theorem spec_LeastReplenished.tab10 : rtab .any (opsOf Try.f43 10) = spec_LeastReplenished.T10 := by kernel_rfl
theorem spec_LeastReplenished.bits10 : waitsOk spec_LeastReplenished.T10.2 spec_LeastReplenished.B10 = true := by kernel_rfl
def spec_LeastReplenished.T13 : Bool × List (List Nat × List Nat) := (true, [([], []), ([], []), ([], []), ([1, 2], [1, 2]), ([], []), ([], []), ([4, 5], [4, 5]), ([6], [6]), ([], []), ([0, 3, 7, 8, 3], [0, 3, 7, 8]), ([9], [9]), ([10], [10]), ([10], [10]), ([11, 9, 0, 1, 2, 3, 4, 5, 6, 7, 8, 9, 10, 11], [11]), ([12, 13, 0, 1, 2, 3, 4, 5, 6, 7, 8, 9, 10, 11, 12, 13], [12])])
def spec_LeastReplenished.B13 : List Nat := [0, 0, 0, 6, 0, 0, 48, 112, 0, 511, 1023, 2047, 2047, 4095, 16383]
theorem spec_LeastReplenished.tab13 : rtab .any (opsOf Try.f43 13) = spec_LeastReplenished.T13 := by kernel_rfl
theorem spec_LeastReplenished.bits13 : waitsOk spec_LeastReplenished.T13.2 spec_LeastReplenished.B13 = true := by kernel_rfl
set_option maxHeartbeats 8000000 in
set_option maxRecDepth 100000 in
theorem spec_LeastReplenished.calls (k : Nat) (a0_0 : Int) (a0_1 : Int) (a0_2 : Int) (a0_3 : Int) (a1_0 : Int) (a1_1 : Int) (a1_2 : Int) (A2 : Option Addr) (c2 : Nat) (l2 : List Int) (a3 : Int) (r1 : List Int) (r2 : Int) (r3 : Int) (w : World) (hr2 : Kd.C (Kd.int .i64) w A2 l2.length l2) (hc2 : l2.length ≤ c2) (h : spec_LeastReplenished.f k a0_0 a0_1 a0_2 a0_3 a1_0 a1_1 a1_2 l2 a3 = some (r1, r2, r3)) :
    Calls Try.prog 43 #[.agg #[.int .i64 a0_0, .int .i64 a0_1, .int .i8 a0_2, .int .i8 a0_3], .agg #[.int .i64 a1_0, .int .i64 a1_1, .int .i64 a1_2], .slice A2 l2.length c2, .int .i64 a3] w fun e w' => ∃ v0_ : Value, e = .returned (.tuple #[v0_, .int .i64 r2, .int .i64 r3]) ∧ Kd.R (Kd.int .i64) 2 w' w.heap.size (fun _ => True) v0_ r1 ∧ Below w.heap.size w w' := by
  have hu43 := Try.underlying43
  have hu45 := Try.underlying45
  have HR2 := Aside0.mk hr2
  have HC2 := Aside0.mk hc2
  clear hr2 hc2
  have HB := Aside0.mk (Below.refl w.heap.size w)
  have H : ((spec_l04Areas.f k a0_0 a0_1 a0_2 a0_3 a1_0 a1_1 a1_2 l2 a3).bind fun t467 => (if t467 = 0 then (spec_LeastReplenished.l0 k l2 a3 (([] : List Int)) 0 0 a0_0 a0_1 a0_2 a0_3 a1_0 a1_1 a1_2) else (some ((([] : List Int)), 0, t467)))) = some (r1, r2, r3) := h
  clear h
  replace H := Option.bind_eq_some_iff.mp H
  obtain ⟨t467, A50, H⟩ := H
  replace H : (if t467 = 0 then (spec_LeastReplenished.l0 k l2 a3 (([] : List Int)) 0 0 a0_0 a0_1 a0_2 a0_3 a1_0 a1_1 a1_2) else (some ((([] : List Int)), 0, t467))) = some (r1, r2, r3) := H
  have A5 := Aside0.mk A50
  clear A50
  by_cases c6 : t467 = 0
  · rw [if_pos c6] at H
    have c6b0 : (t467 == 0) = true := beq_iff_eq.mpr c6
    have c6b1 : (t467 != 0) = false := bne_eq_false_iff_eq.mpr c6
    clear c6
    obtain ⟨y471, hy471⟩ : ∃ y_ : List Int, y_ = (([] : List Int)) := ⟨_, rfl⟩
    replace H : (spec_LeastReplenished.l0 k l2 a3 y471 0 0 a0_0 a0_1 a0_2 a0_3 a1_0 a1_1 a1_2) = some (r1, r2, r3) := by first | (rw [hy471]; with_reducible exact H) | (have H2_ := (Option.bind_some _ _).symm.trans H; rw [hy471]; with_reducible exact H2_) | (have H2_ := (Option.bind_some _ _).symm.trans H; with_reducible exact H2_) | with_reducible exact H | (rw [hy471]; exact H) | exact H
    have Ny471 := Aside0.mk hy471
    clear hy471
    have H' := Aside0.mk H
    clear H
    go_enter Try.func43, Try.ntmps43
    go_wp2_with (first | ((with_reducible refine gate_dst (N := 4) rfl ?_); refine box_event ?hg (N := 4) ?hd (cs := #[.int .i64 a0_0, .int .i64 a0_1, .int .i8 a0_2, .int .i8 a0_3]) (t := 43) ?hr ?_; (case hd => rfl); (case hg => rfl); (case hr => first | (go_simp; done) | (go_simp; rfl)); intro gb465 hg w7 hbox hb; have n0_ := Aside0.mk (below_step HB.out hb); have n1_ := Aside0.mk (hbox); have n2_ := Aside0.mk ((by rw [hg]; exact (below_size HB.out) : w.heap.size ≤ gb465)); have n3_ := Aside0.mk ((by rw [hg]; exact (below_size HB.out) : w.heap.size ≤ gb465)); clear HB; have HB := n0_; have BK465 := n1_; have GW465 := n2_; have GE465 := n3_; clear n0_ n1_ n2_ n3_; clear hb hbox hg) | ((with_reducible refine gate_dst (N := 5) rfl ?_); refine box_event ?hg (N := 5) ?hd (cs := #[.int .i64 a1_0, .int .i64 a1_1, .int .i64 a1_2]) (t := 45) ?hr ?_; (case hd => rfl); (case hg => rfl); (case hr => first | (go_simp; done) | (go_simp; rfl)); intro gb466 hg w8 hbox hb; have n0_ := Aside0.mk (blk_below BK465.out hb); have n1_ := Aside0.mk (below_step HB.out hb); have n2_ := Aside0.mk (hbox); have n3_ := Aside0.mk ((by rw [hg]; exact (below_size HB.out) : w.heap.size ≤ gb466)); have n4_ := Aside0.mk ((by rw [hg]; exact (below_size HB.out) : w.heap.size ≤ gb466)); have n5_ := Aside0.mk ((by rw [hg]; exact Nat.ne_of_lt (blk_lt BK465.out) : gb465 ≠ gb466)); have n6_ := Aside0.mk ((by rw [hg]; exact Nat.ne_of_gt (blk_lt BK465.out) : gb466 ≠ gb465)); clear BK465; clear HB; have BK465 := n0_; have HB := n1_; have BK466 := n2_; have GW466 := n3_; have GE466 := n4_; have NB465_466 := n5_; have NB466_465 := n6_; clear n0_ n1_ n2_ n3_ n4_ n5_ n6_; clear hb hbox hg; have hnb9 := NB465_466.out; have hnc9 := NB466_465.out; have hcz10_0 := blk_c BK465.out 0 rfl; have hcz10_1 := blk_c BK465.out 1 rfl; have hcz10_2 := blk_c BK465.out 2 rfl; have hcz10_3 := blk_c BK465.out 3 rfl; have hfz10_0 := blk_frozen BK465.out 0; have hfz10_1 := blk_frozen BK465.out 1; have hfz10_2 := blk_frozen BK465.out 2; have hfz10_3 := blk_frozen BK465.out 3; have hcz11_0 := blk_c BK466.out 0 rfl; have hcz11_1 := blk_c BK466.out 1 rfl; have hcz11_2 := blk_c BK466.out 2 rfl; have hfz11_0 := blk_frozen BK466.out 0; have hfz11_1 := blk_frozen BK466.out 1; have hfz11_2 := blk_frozen BK466.out 2) | ((with_reducible refine gate_callee (f := 78) rfl ?_); refine goesL_ (some 22) rfl rfl Try.func78 (by kernel_rfl) rfl #[.agg #[.int .i64 a0_0, .int .i64 a0_1, .int .i8 a0_2, .int .i8 a0_3], .agg #[.int .i64 a1_0, .int .i64 a1_1, .int .i64 a1_2], .slice A2 l2.length c2, .int .i64 a3] rfl (by (try simp only [List.map_toArray, List.map_cons, List.map_nil]); first | done | rfl | (simp only [List.length_drop, List.length_take]; rfl)) ?_; (with_reducible refine (spec_l04Areas.calls k a0_0 a0_1 a0_2 a0_3 a1_0 a1_1 a1_2 _ _ l2 a3 t467 _ ?side1 ?side2 A5.out).mono ?_); (case side1 => repeat (first | exact (Kd.C_below HR2.out HB.out) | (with_reducible refine Kd.C_alloc ?_ _) | (with_reducible refine Kd.C_drewN ?_ _) | (with_reducible refine Kd.C_drew ?_))); (case side2 => exact HC2.out); rintro e w12 ⟨rfl, hb⟩; refine ⟨_, rfl, ?_⟩; have n0_ := Aside0.mk (blk_below BK465.out hb); have n1_ := Aside0.mk (blk_below BK466.out hb); have n2_ := Aside0.mk (below_step HB.out hb); clear BK465; clear BK466; clear HB; have BK465 := n0_; have BK466 := n1_; have HB := n2_; clear n0_ n1_ n2_; (try clear hb); (try clear hb2); (try clear hk); (try clear hi)) | ((with_reducible refine gate_dst (N := 27) rfl ?_); refine Kd.R_lit (Kd.int .i64) _ 2 ?hg (N := 27) ?hd (xs := ([] : List Int)) (inner := []) (ok := fun _ => True) (okp := fun _ => True) ?hr ?hp (fun _ hk => hk) trivial (Below.refl _ _) (Nat.le_refl _) (by simp) ?_; (case hd => rfl); (case hg => rfl); (case hr => first | (go_simp; done) | (go_simp; rfl)); (case hp => exact (Reps.none _ _)); intro v472 w13 ho14 hb hg_ hnew_; clear hg_ hnew_; (first | rw [← Ny471.out] at ho14 | (simp only [Int.reduceToNat] at ho14; rw [← Ny471.out] at ho14)); have n0_ := Aside0.mk (Kd.R_lower ho14 (below_size HB.out)); have n1_ := Aside0.mk (blk_below BK465.out hb); have n2_ := Aside0.mk (blk_below BK466.out hb); have n3_ := Aside0.mk (below_step HB.out hb); clear BK465; clear BK466; clear HB; have HO473 := n0_; have BK465 := n1_; have BK466 := n2_; have HB := n3_; clear n0_ n1_ n2_ n3_; clear hb ho14))
    go_loopg [12, 13, 14] k (fun kq v12 v13 v14 w' => ∃ (x12_1 : List Int) (x13_1 : Int) (x14_1 : Int) (x467000_1 : Int) (x467001_1 : Int) (x467002_1 : Int), v13 = .int .i64 x13_1 ∧ v14 = .int .i64 x14_1 ∧ Aside0 (spec_LeastReplenished.l0 kq l2 a3 x12_1 x13_1 x14_1 a0_0 a0_1 a0_2 a0_3 x467000_1 x467001_1 x467002_1 = some (r1, r2, r3)) ∧ Aside0 (kq ≤ k) ∧ Aside0 (Kd.R (Kd.int .i64) 2 w' w.heap.size (fun _ => True) v12 x12_1) ∧ Aside0 (w'.heap[gb465]? = some (.cells #[.int .i64 a0_0, .int .i64 a0_1, .int .i8 a0_2, .int .i8 a0_3] 43 (0, 0))) ∧ Aside0 (w'.heap[gb466]? = some (.cells #[.int .i64 x467000_1, .int .i64 x467001_1, .int .i64 x467002_1] 45 (0, 0))) ∧ Aside0 (Below w.heap.size w w'))
    case atStart => exact ⟨(y471), (0), (0), (a1_0), (a1_1), (a1_2), (by first | rfl | (simp; done) | (simp [*]; done)), (by first | rfl | (simp; done) | (simp [*]; done)), H', ⟨Nat.le_refl _⟩, ⟨by (with_reducible repeat (first | apply Kd.R_alloc | apply Kd.R_drewN | apply Kd.R_drew)); exact HO473.out⟩, ⟨by (with_reducible repeat (first | refine blk_drewN ?_ _ | refine blk_drew ?_ | refine blk_alloc ?_ _)); exact BK465.out⟩, ⟨by (with_reducible repeat (first | refine blk_drewN ?_ _ | refine blk_drew ?_ | refine blk_alloc ?_ _)); exact BK466.out⟩, ⟨by repeat (first | (with_reducible first | exact HB.out | apply below_alloc | apply pw_below_drewN | apply below_drew1 | refine below_set ?_ GE465.out | refine below_set ?_ GE466.out) | exact HB.out)⟩⟩
    case round =>
      clear H'
      try clear c2
      try clear p2
      try clear c4
      try clear c6
      try clear c6b0
      try clear c6b1
      try clear c7
      try clear c9
      try clear hcz10_0
      try clear hcz10_1
      try clear hcz10_2
      try clear hcz10_3
      try clear hcz11_0
      try clear hcz11_1
      try clear hcz11_2
      try clear hfz10_0
      try clear hfz10_1
      try clear hfz10_2
      try clear hfz10_3
      try clear hfz11_0
      try clear hfz11_1
      try clear hfz11_2
      obtain ⟨x12_1, x13_1, x14_1, x467000_1, x467001_1, x467002_1, rfl, rfl, HA, HK1, HO_12, BK465, BK466, HB⟩ := hrel
      cases gk with
      | zero => exact absurd HA.out (by simp [spec_LeastReplenished.l0])
      | succ k1 =>
        have H := HA.out
        clear HA
        simp only [spec_LeastReplenished.l0] at H
        by_cases c15 : x14_1 < (l2.length : Int)
        · rw [if_pos c15] at H
          have c15b0 : decide (x14_1 < (l2.length : Int)) = true := decide_eq_true c15
          clear c15
          by_cases c16 : 0 ≤ x14_1
          · rw [if_pos c16] at H
            have c16b0 : decide (0 ≤ x14_1) = true := decide_eq_true c16
            clear c16
            replace H := Option.bind_eq_some_iff.mp H
            obtain ⟨⟨t475, t476, t477, t478⟩, A170, H⟩ := H
            replace H : (spec_LeastReplenished.l1 k1 l2 a3 x12_1 x13_1 x14_1 0 t478 a0_0 a0_1 a0_2 a0_3 x467000_1 x467001_1 x467002_1 t475 t476 t477) = some (r1, r2, r3) := H
            have A17 := Aside0.mk A170
            clear A170
            have H' := Aside0.mk H
            clear H
            try go_wp2
            have n0_ := Aside0.mk (Kd.R_drew HO_12.out)
            have n1_ := Aside0.mk (blk_drew BK465.out)
            have n2_ := Aside0.mk (blk_drew BK466.out)
            have n3_ := Aside0.mk (below_drew1 HB.out)
            clear HO_12
            clear BK465
            clear BK466
            clear HB
            have HO_12 := n0_
            have BK465 := n1_
            have BK466 := n2_
            have HB := n3_
            clear n0_ n1_ n2_ n3_
            have p474 : 0 ≤ (x14_1 : Int) := of_decide_eq_true (by first | (with_reducible assumption) | assumption)
            have q474 : x14_1 < (l2.length : Int) := of_decide_eq_true (by first | (with_reducible assumption) | assumption)
            obtain ⟨ad474, e474, hx474_0⟩ := Kd.at_int HR2.out x14_1 p474 q474
            have hw474_0 := hx474_0
            cases e474
            replace hx474_0 := (HB.out.cell (World.block_lt_of_cell? w _ hx474_0)).trans hx474_0
            replace p474 := eq_true p474
            replace q474 := eq_true q474
            refine start_ (n := 14) (S := fun w' => w'.cell? ⟨gb465, 0, none⟩ = some (.int .i64 a0_0) ∧ w'.cell? ⟨gb465, 1, none⟩ = some (.int .i64 a0_1) ∧ w'.cell? ⟨gb465, 2, none⟩ = some (.int .i8 a0_2) ∧ w'.cell? ⟨gb465, 3, none⟩ = some (.int .i8 a0_3) ∧ w'.cell? ⟨gb466, 0, none⟩ = some (.int .i64 x467000_1) ∧ w'.cell? ⟨gb466, 1, none⟩ = some (.int .i64 x467001_1) ∧ w'.cell? ⟨gb466, 2, none⟩ = some (.int .i64 x467002_1) ∧ w'.cell? (ad474.add (x14_1).toNat) = some (.int .i64 (rd l2 x14_1))) (ds := []) #[false, false, false, false, false, false, false, false, false, false, false, false, false, false] (by kernel_rfl) rfl rfl ⟨(blk_cell BK465.out 0).trans rfl, (blk_cell BK465.out 1).trans rfl, (blk_cell BK465.out 2).trans rfl, (blk_cell BK465.out 3).trans rfl, (blk_cell BK466.out 0).trans rfl, (blk_cell BK466.out 1).trans rfl, (blk_cell BK466.out 2).trans rfl, ((HB.out.cell (World.block_lt_of_cell? w _ hw474_0)).trans hw474_0)⟩ (fun hHeld => ?_); refine with_tabW spec_LeastReplenished.tab10 spec_LeastReplenished.bits10 (fun HT_ HW_ => ?_)
            generalize wr.drew = w18 at HO_12 BK465 BK466 HB hx474_0 hHeld ⊢
            refine pure_ (i := 2) (N := some 37) (v := ?_) (a' := ?_) #[false, false, true, false, false, false, false, false, false, false, false, false, false, false] rfl rfl (any_of HT_.out (by kernel_rfl)) (fun _ _ _ h => h) (Or.inl ⟨by rfl, ?_⟩) ?_ ?_
            rotate_left
            · intro w'
              go_simp
              with_reducible rfl
            rotate_left
            · simp only [Act.put, List.setIfInBounds_toArray, List.set_cons_zero, List.set_cons_succ, i64_w, i32_w]
              rfl
            refine pure_ (i := 3) (N := some 38) (v := ?_) (a' := ?_) #[false, false, true, true, false, false, false, false, false, false, false, false, false, false] rfl rfl (any_of HT_.out (by kernel_rfl)) (fun _ _ _ h => h) (Or.inl ⟨by rfl, ?_⟩) ?_ ?_
            rotate_left
            · intro w'
              go_simp
              with_reducible rfl
            rotate_left
            · simp only [Act.put, List.setIfInBounds_toArray, List.set_cons_zero, List.set_cons_succ, i64_w, i32_w]
              rfl
            refine pure_ (i := 4) (N := some 39) (v := ?_) (a' := ?_) #[false, false, true, true, true, false, false, false, false, false, false, false, false, false] rfl rfl (any_of HT_.out (by kernel_rfl)) (fun _ _ _ h => h) (Or.inl ⟨by rfl, ?_⟩) ?_ ?_
            rotate_left
            · intro w'
              go_simp
              with_reducible rfl
            rotate_left
            · simp only [Act.put, List.setIfInBounds_toArray, List.set_cons_zero, List.set_cons_succ, i64_w, i32_w]
              rfl
            refine pure_ (i := 6) (N := some 41) (v := ?_) (a' := ?_) #[false, false, true, true, true, false, true, false, false, false, false, false, false, false] rfl rfl (any_of HT_.out (by kernel_rfl)) (fun _ _ _ h => h) (Or.inl ⟨by rfl, ?_⟩) ?_ ?_
            rotate_left
            · intro w'
              go_simp
              with_reducible rfl
            rotate_left
            · simp only [Act.put, List.setIfInBounds_toArray, List.set_cons_zero, List.set_cons_succ, i64_w, i32_w]
              rfl
            refine take_ (i := 0) (N := some 35) (v := ?_) (a' := ?_) #[true, false, true, true, true, false, true, false, false, false, false, false, false, false] rfl rfl (take_ofW HT_.out HW_.out (by kernel_rfl)) (fun _ _ _ h => h) (Or.inl ⟨by rfl, ?_⟩) hHeld ?_ ?_
            rotate_left
            · rintro w' ⟨s0, s1, s2, s3, s4, s5, s6, s7⟩
              go_simp
              with_reducible rfl
            rotate_left
            · simp only [Act.put, List.setIfInBounds_toArray, List.set_cons_zero, List.set_cons_succ, i64_w, i32_w]
              rfl
            refine take_ (i := 1) (N := some 36) (v := ?_) (a' := ?_) #[true, true, true, true, true, false, true, false, false, false, false, false, false, false] rfl rfl (take_ofW HT_.out HW_.out (by kernel_rfl)) (fun _ _ _ h => h) (Or.inl ⟨by rfl, ?_⟩) hHeld ?_ ?_
            rotate_left
            · rintro w' ⟨s0, s1, s2, s3, s4, s5, s6, s7⟩
              go_simp
              with_reducible rfl
            rotate_left
            · simp only [Act.put, List.setIfInBounds_toArray, List.set_cons_zero, List.set_cons_succ, i64_w, i32_w]
              rfl
            refine take_ (i := 5) (N := some 40) (v := ?_) (a' := ?_) #[true, true, true, true, true, true, true, false, false, false, false, false, false, false] rfl rfl (take_ofW HT_.out HW_.out (by kernel_rfl)) (fun _ _ _ h => h) (Or.inl ⟨by rfl, ?_⟩) hHeld ?_ ?_
            rotate_left
            · rintro w' ⟨s0, s1, s2, s3, s4, s5, s6, s7⟩
              go_simp
              with_reducible rfl
            rotate_left
            · simp only [Act.put, List.setIfInBounds_toArray, List.set_cons_zero, List.set_cons_succ, i64_w, i32_w]
              rfl
            refine join_ (σ := Nat) 2 #[true, true, true, true, true, true, true, true, true, true, true, true, false, false] (fun s_ => [(42, .tuple #[.agg #[.int .i64 t475, .int .i64 t476, .int .i64 t477], .bool t478]), (16, .pointer (some ⟨s_, 0, none⟩)), (34, .tuple #[.agg #[.int .i64 t475, .int .i64 t476, .int .i64 t477], .bool t478]), (43, .agg #[.int .i64 t475, .int .i64 t476, .int .i64 t477]), (44, .bool t478)]) (fun s_ w' => (w'.cell? ⟨gb465, 0, none⟩ = some (.int .i64 a0_0) ∧ w'.cell? ⟨gb465, 1, none⟩ = some (.int .i64 a0_1) ∧ w'.cell? ⟨gb465, 2, none⟩ = some (.int .i8 a0_2) ∧ w'.cell? ⟨gb465, 3, none⟩ = some (.int .i8 a0_3) ∧ w'.cell? ⟨gb466, 0, none⟩ = some (.int .i64 x467000_1) ∧ w'.cell? ⟨gb466, 1, none⟩ = some (.int .i64 x467001_1) ∧ w'.cell? ⟨gb466, 2, none⟩ = some (.int .i64 x467002_1) ∧ w'.cell? (ad474.add (x14_1).toNat) = some (.int .i64 (rd l2 x14_1))) ∧ (Kd.R (Kd.int .i64) 2 w' w.heap.size (fun _ => True) u12 x12_1) ∧ (w'.heap[gb465]? = some (.cells #[.int .i64 a0_0, .int .i64 a0_1, .int .i8 a0_2, .int .i8 a0_3] 43 (0, 0))) ∧ (w'.heap[gb466]? = some (.cells #[.int .i64 x467000_1, .int .i64 x467001_1, .int .i64 x467002_1] 45 (0, 0))) ∧ (w'.heap[s_]? = some (.cells #[.int .i64 0, .int .i64 0, .int .i64 0] 45 (0, 0))) ∧ (w.heap.size ≤ s_) ∧ (w.heap.size ≤ s_) ∧ (gb465 ≠ s_) ∧ (s_ ≠ gb465) ∧ (gb466 ≠ s_) ∧ (s_ ≠ gb466) ∧ (Below w.heap.size w w')) ?_ ?_
            rotate_left
            · intro hCont
              refine two_ (i := 7) (j := 11) (Ni := some 42) (Nj := some 16) #[true, true, true, true, true, true, true, true, false, false, false, false, false, false] #[true, true, true, true, true, true, true, false, false, false, false, true, false, false] rfl rfl rfl rfl (two_of HT_.out (by kernel_rfl)) (by decide) (by decide) (fun K hK => ?_) (fun K hK => ?_)
              · skip
                refine goes_ Try.func74 (by kernel_rfl) rfl #[.agg #[.int .i64 a0_0, .int .i64 a0_1, .int .i8 a0_2, .int .i8 a0_3], .agg #[.int .i64 x467000_1, .int .i64 x467001_1, .int .i64 x467002_1], .int .i64 (rd l2 x14_1), .int .i64 a3] (by rfl) rfl rfl (by (try simp only [List.map_toArray, List.map_cons, List.map_nil]); first | done | rfl | (simp only [List.length_drop, List.length_take]; rfl)) ?_
                with_reducible refine (spec_l04Ready.calls k1 a0_0 a0_1 a0_2 a0_3 x467000_1 x467001_1 x467002_1 (rd l2 x14_1) a3 t475 t476 t477 t478 _ A17.out).mono ?_
                rintro e w19 ⟨rfl, hb⟩
                refine ⟨_, rfl, ?_⟩
                have n0_ := Aside0.mk (Kd.R_below HO_12.out hb)
                have n1_ := Aside0.mk (blk_below BK465.out hb)
                have n2_ := Aside0.mk (blk_below BK466.out hb)
                have n3_ := Aside0.mk (below_step HB.out hb)
                clear HO_12
                clear BK465
                clear BK466
                clear HB
                have HO_12 := n0_
                have BK465 := n1_
                have BK466 := n2_
                have HB := n3_
                clear n0_ n1_ n2_ n3_
                (try clear hb)
                (try clear hb2)
                (try clear hk)
                (try clear hi)
                refine hK.out _ _ ⟨(blk_cell BK465.out 0).trans rfl, (blk_cell BK465.out 1).trans rfl, (blk_cell BK465.out 2).trans rfl, (blk_cell BK465.out 3).trans rfl, (blk_cell BK466.out 0).trans rfl, (blk_cell BK466.out 1).trans rfl, (blk_cell BK466.out 2).trans rfl, ((HB.out.cell (World.block_lt_of_cell? w _ hw474_0)).trans hw474_0)⟩ (fun hHeld => ?_)
                clear hK K
                refine norm_ (a' := ?_) ?_ ?_
                rotate_left
                · show Act.put _ (some 42) _ = _
                  simp only [Act.put, List.setIfInBounds_toArray, List.set_cons_zero, List.set_cons_succ, i64_w, i32_w]
                  rfl
                refine pure_ (i := 8) (N := some 34) (v := ?_) (a' := ?_) #[true, true, true, true, true, true, true, true, true, false, false, false, false, false] rfl rfl (any_of HT_.out (by kernel_rfl)) (fun _ _ _ h => h) (Or.inl ⟨by rfl, ?_⟩) ?_ ?_
                rotate_left
                · intro w'
                  go_simp
                  with_reducible rfl
                rotate_left
                · simp only [Act.put, List.setIfInBounds_toArray, List.set_cons_zero, List.set_cons_succ, i64_w, i32_w]
                  rfl
                refine pure_ (i := 9) (N := some 43) (v := ?_) (a' := ?_) #[true, true, true, true, true, true, true, true, true, true, false, false, false, false] rfl rfl (any_of HT_.out (by kernel_rfl)) (fun _ _ _ h => h) (Or.inl ⟨by rfl, ?_⟩) ?_ ?_
                rotate_left
                · intro w'
                  go_simp
                  with_reducible rfl
                rotate_left
                · simp only [Act.put, List.setIfInBounds_toArray, List.set_cons_zero, List.set_cons_succ, i64_w, i32_w]
                  rfl
                refine pure_ (i := 10) (N := some 44) (v := ?_) (a' := ?_) #[true, true, true, true, true, true, true, true, true, true, true, false, false, false] rfl rfl (any_of HT_.out (by kernel_rfl)) (fun _ _ _ h => h) (Or.inl ⟨by rfl, ?_⟩) ?_ ?_
                rotate_left
                · intro w'
                  go_simp
                  with_reducible rfl
                rotate_left
                · simp only [Act.put, List.setIfInBounds_toArray, List.set_cons_zero, List.set_cons_succ, i64_w, i32_w]
                  rfl
                refine one_ (i := 11) (N := some 16) #[true, true, true, true, true, true, true, true, true, true, true, true, false, false] rfl rfl (one_of HT_.out (by kernel_rfl)) (by decide) (fun K hK => ?_)
                refine box_step ?hg (N := 16) ?hd (cs := #[.int .i64 0, .int .i64 0, .int .i64 0]) (t := 45) ?hr ?_; (case hd => rfl); (case hg => rfl); (case hr => first | (go_simp; done) | (go_simp; rfl))
                intro gb479 hg w20 hbox hb
                have n0_ := Aside0.mk (Kd.R_below HO_12.out hb)
                have n1_ := Aside0.mk (blk_below BK465.out hb)
                have n2_ := Aside0.mk (blk_below BK466.out hb)
                have n3_ := Aside0.mk (below_step HB.out hb)
                have n4_ := Aside0.mk (hbox)
                have n5_ := Aside0.mk ((by rw [hg]; exact (below_size HB.out) : w.heap.size ≤ gb479))
                have n6_ := Aside0.mk ((by rw [hg]; exact (below_size HB.out) : w.heap.size ≤ gb479))
                have n7_ := Aside0.mk ((by rw [hg]; exact Nat.ne_of_lt (blk_lt BK465.out) : gb465 ≠ gb479))
                have n8_ := Aside0.mk ((by rw [hg]; exact Nat.ne_of_gt (blk_lt BK465.out) : gb479 ≠ gb465))
                have n9_ := Aside0.mk ((by rw [hg]; exact Nat.ne_of_lt (blk_lt BK466.out) : gb466 ≠ gb479))
                have n10_ := Aside0.mk ((by rw [hg]; exact Nat.ne_of_gt (blk_lt BK466.out) : gb479 ≠ gb466))
                clear HO_12
                clear BK465
                clear BK466
                clear HB
                have HO_12 := n0_
                have BK465 := n1_
                have BK466 := n2_
                have HB := n3_
                have BK479 := n4_
                have GW479 := n5_
                have GE479 := n6_
                have NB465_479 := n7_
                have NB479_465 := n8_
                have NB466_479 := n9_
                have NB479_466 := n10_
                clear n0_ n1_ n2_ n3_ n4_ n5_ n6_ n7_ n8_ n9_ n10_
                clear hb hbox hg
                refine hK.out _ _ ⟨(blk_cell BK465.out 0).trans rfl, (blk_cell BK465.out 1).trans rfl, (blk_cell BK465.out 2).trans rfl, (blk_cell BK465.out 3).trans rfl, (blk_cell BK466.out 0).trans rfl, (blk_cell BK466.out 1).trans rfl, (blk_cell BK466.out 2).trans rfl, ((HB.out.cell (World.block_lt_of_cell? w _ hw474_0)).trans hw474_0)⟩ (fun hHeld => ?_)
                clear hK K
                refine norm_ (a' := ?_) ?_ ?_
                rotate_left
                · show Act.put _ (some 16) _ = _
                  simp only [Act.put, List.setIfInBounds_toArray, List.set_cons_zero, List.set_cons_succ, i64_w, i32_w]
                  rfl
                exact norm_ (by simp only [putAll, Act.put, List.setIfInBounds_toArray, List.set_cons_zero, List.set_cons_succ]) (hCont (gb479) _ ⟨hHeld, HO_12.out, BK465.out, BK466.out, BK479.out, GW479.out, GE479.out, NB465_479.out, NB479_465.out, NB466_479.out, NB479_466.out, HB.out⟩)
              · skip
                refine box_step ?hg (N := 16) ?hd (cs := #[.int .i64 0, .int .i64 0, .int .i64 0]) (t := 45) ?hr ?_; (case hd => rfl); (case hg => rfl); (case hr => first | (go_simp; done) | (go_simp; rfl))
                intro gb479 hg w19 hbox hb
                have n0_ := Aside0.mk (Kd.R_below HO_12.out hb)
                have n1_ := Aside0.mk (blk_below BK465.out hb)
                have n2_ := Aside0.mk (blk_below BK466.out hb)
                have n3_ := Aside0.mk (below_step HB.out hb)
                have n4_ := Aside0.mk (hbox)
                have n5_ := Aside0.mk ((by rw [hg]; exact (below_size HB.out) : w.heap.size ≤ gb479))
                have n6_ := Aside0.mk ((by rw [hg]; exact (below_size HB.out) : w.heap.size ≤ gb479))
                have n7_ := Aside0.mk ((by rw [hg]; exact Nat.ne_of_lt (blk_lt BK465.out) : gb465 ≠ gb479))
                have n8_ := Aside0.mk ((by rw [hg]; exact Nat.ne_of_gt (blk_lt BK465.out) : gb479 ≠ gb465))
                have n9_ := Aside0.mk ((by rw [hg]; exact Nat.ne_of_lt (blk_lt BK466.out) : gb466 ≠ gb479))
                have n10_ := Aside0.mk ((by rw [hg]; exact Nat.ne_of_gt (blk_lt BK466.out) : gb479 ≠ gb466))
                clear HO_12
                clear BK465
                clear BK466
                clear HB
                have HO_12 := n0_
                have BK465 := n1_
                have BK466 := n2_
                have HB := n3_
                have BK479 := n4_
                have GW479 := n5_
                have GE479 := n6_
                have NB465_479 := n7_
                have NB479_465 := n8_
                have NB466_479 := n9_
                have NB479_466 := n10_
                clear n0_ n1_ n2_ n3_ n4_ n5_ n6_ n7_ n8_ n9_ n10_
                clear hb hbox hg
                refine hK.out _ _ ⟨(blk_cell BK465.out 0).trans rfl, (blk_cell BK465.out 1).trans rfl, (blk_cell BK465.out 2).trans rfl, (blk_cell BK465.out 3).trans rfl, (blk_cell BK466.out 0).trans rfl, (blk_cell BK466.out 1).trans rfl, (blk_cell BK466.out 2).trans rfl, ((HB.out.cell (World.block_lt_of_cell? w _ hw474_0)).trans hw474_0)⟩ (fun hHeld => ?_)
                clear hK K
                refine norm_ (a' := ?_) ?_ ?_
                rotate_left
                · show Act.put _ (some 16) _ = _
                  simp only [Act.put, List.setIfInBounds_toArray, List.set_cons_zero, List.set_cons_succ, i64_w, i32_w]
                  rfl
                refine one_ (i := 7) (N := some 42) #[true, true, true, true, true, true, true, true, false, false, false, true, false, false] rfl rfl (one_of HT_.out (by kernel_rfl)) (by decide) (fun K hK => ?_)
                refine goes_ Try.func74 (by kernel_rfl) rfl #[.agg #[.int .i64 a0_0, .int .i64 a0_1, .int .i8 a0_2, .int .i8 a0_3], .agg #[.int .i64 x467000_1, .int .i64 x467001_1, .int .i64 x467002_1], .int .i64 (rd l2 x14_1), .int .i64 a3] (by rfl) rfl rfl (by (try simp only [List.map_toArray, List.map_cons, List.map_nil]); first | done | rfl | (simp only [List.length_drop, List.length_take]; rfl)) ?_
                with_reducible refine (spec_l04Ready.calls k1 a0_0 a0_1 a0_2 a0_3 x467000_1 x467001_1 x467002_1 (rd l2 x14_1) a3 t475 t476 t477 t478 _ A17.out).mono ?_
                rintro e w20 ⟨rfl, hb⟩
                refine ⟨_, rfl, ?_⟩
                have n0_ := Aside0.mk (Kd.R_below HO_12.out hb)
                have n1_ := Aside0.mk (blk_below BK465.out hb)
                have n2_ := Aside0.mk (blk_below BK466.out hb)
                have n3_ := Aside0.mk (blk_below BK479.out hb)
                have n4_ := Aside0.mk (below_step HB.out hb)
                clear HO_12
                clear BK465
                clear BK466
                clear BK479
                clear HB
                have HO_12 := n0_
                have BK465 := n1_
                have BK466 := n2_
                have BK479 := n3_
                have HB := n4_
                clear n0_ n1_ n2_ n3_ n4_
                (try clear hb)
                (try clear hb2)
                (try clear hk)
                (try clear hi)
                refine hK.out _ _ ⟨(blk_cell BK465.out 0).trans rfl, (blk_cell BK465.out 1).trans rfl, (blk_cell BK465.out 2).trans rfl, (blk_cell BK465.out 3).trans rfl, (blk_cell BK466.out 0).trans rfl, (blk_cell BK466.out 1).trans rfl, (blk_cell BK466.out 2).trans rfl, ((HB.out.cell (World.block_lt_of_cell? w _ hw474_0)).trans hw474_0)⟩ (fun hHeld => ?_)
                clear hK K
                refine norm_ (a' := ?_) ?_ ?_
                rotate_left
                · show Act.put _ (some 42) _ = _
                  simp only [Act.put, List.setIfInBounds_toArray, List.set_cons_zero, List.set_cons_succ, i64_w, i32_w]
                  rfl
                refine pure_ (i := 8) (N := some 34) (v := ?_) (a' := ?_) #[true, true, true, true, true, true, true, true, true, false, false, true, false, false] rfl rfl (any_of HT_.out (by kernel_rfl)) (fun _ _ _ h => h) (Or.inl ⟨by rfl, ?_⟩) ?_ ?_
                rotate_left
                · intro w'
                  go_simp
                  with_reducible rfl
                rotate_left
                · simp only [Act.put, List.setIfInBounds_toArray, List.set_cons_zero, List.set_cons_succ, i64_w, i32_w]
                  rfl
                refine pure_ (i := 9) (N := some 43) (v := ?_) (a' := ?_) #[true, true, true, true, true, true, true, true, true, true, false, true, false, false] rfl rfl (any_of HT_.out (by kernel_rfl)) (fun _ _ _ h => h) (Or.inl ⟨by rfl, ?_⟩) ?_ ?_
                rotate_left
                · intro w'
                  go_simp
                  with_reducible rfl
                rotate_left
                · simp only [Act.put, List.setIfInBounds_toArray, List.set_cons_zero, List.set_cons_succ, i64_w, i32_w]
                  rfl
                refine pure_ (i := 10) (N := some 44) (v := ?_) (a' := ?_) #[true, true, true, true, true, true, true, true, true, true, true, true, false, false] rfl rfl (any_of HT_.out (by kernel_rfl)) (fun _ _ _ h => h) (Or.inl ⟨by rfl, ?_⟩) ?_ ?_
                rotate_left
                · intro w'
                  go_simp
                  with_reducible rfl
                rotate_left
                · simp only [Act.put, List.setIfInBounds_toArray, List.set_cons_zero, List.set_cons_succ, i64_w, i32_w]
                  rfl
                exact norm_ (by simp only [putAll, Act.put, List.setIfInBounds_toArray, List.set_cons_zero, List.set_cons_succ]) (hCont (gb479) _ ⟨hHeld, HO_12.out, BK465.out, BK466.out, BK479.out, GW479.out, GE479.out, NB465_479.out, NB479_465.out, NB466_479.out, NB479_466.out, HB.out⟩)
            rintro gb479 w21 ⟨hS_, h0_, h1_, h2_, h3_, h4_, h5_, h6_, h7_, h8_, h9_, h10_⟩
            have n0_ : Aside0 (Kd.R (Kd.int .i64) 2 w21 w.heap.size (fun _ => True) u12 x12_1) := ⟨h0_⟩
            have n1_ : Aside0 (w21.heap[gb465]? = some (.cells #[.int .i64 a0_0, .int .i64 a0_1, .int .i8 a0_2, .int .i8 a0_3] 43 (0, 0))) := ⟨h1_⟩
            have n2_ : Aside0 (w21.heap[gb466]? = some (.cells #[.int .i64 x467000_1, .int .i64 x467001_1, .int .i64 x467002_1] 45 (0, 0))) := ⟨h2_⟩
            have n3_ : Aside0 (w21.heap[gb479]? = some (.cells #[.int .i64 0, .int .i64 0, .int .i64 0] 45 (0, 0))) := ⟨h3_⟩
            have n4_ : Aside0 (w.heap.size ≤ gb479) := ⟨h4_⟩
            have n5_ : Aside0 (w.heap.size ≤ gb479) := ⟨h5_⟩
            have n6_ : Aside0 (gb465 ≠ gb479) := ⟨h6_⟩
            have n7_ : Aside0 (gb479 ≠ gb465) := ⟨h7_⟩
            have n8_ : Aside0 (gb466 ≠ gb479) := ⟨h8_⟩
            have n9_ : Aside0 (gb479 ≠ gb466) := ⟨h9_⟩
            have n10_ : Aside0 (Below w.heap.size w w21) := ⟨h10_⟩
            clear HO_12
            clear BK465
            clear BK466
            clear HB
            clear h0_ h1_ h2_ h3_ h4_ h5_ h6_ h7_ h8_ h9_ h10_
            have HO_12 := n0_
            have BK465 := n1_
            have BK466 := n2_
            have BK479 := n3_
            have GW479 := n4_
            have GE479 := n5_
            have NB465_479 := n6_
            have NB479_465 := n7_
            have NB466_479 := n8_
            have NB479_466 := n9_
            have HB := n10_
            clear n0_ n1_ n2_ n3_ n4_ n5_ n6_ n7_ n8_ n9_ n10_
            have hHeld : w21.cell? ⟨gb465, 0, none⟩ = some (.int .i64 a0_0) ∧ w21.cell? ⟨gb465, 1, none⟩ = some (.int .i64 a0_1) ∧ w21.cell? ⟨gb465, 2, none⟩ = some (.int .i8 a0_2) ∧ w21.cell? ⟨gb465, 3, none⟩ = some (.int .i8 a0_3) ∧ w21.cell? ⟨gb466, 0, none⟩ = some (.int .i64 x467000_1) ∧ w21.cell? ⟨gb466, 1, none⟩ = some (.int .i64 x467001_1) ∧ w21.cell? ⟨gb466, 2, none⟩ = some (.int .i64 x467002_1) ∧ w21.cell? (ad474.add (x14_1).toNat) = some (.int .i64 (rd l2 x14_1)) := hS_
            refine norm_ (a' := ?_) ?_ ?_
            rotate_left
            · simp only [putAll, Act.put, List.setIfInBounds_toArray, List.set_cons_zero, List.set_cons_succ]
              rfl
            refine one_ (i := 12) (N := none) #[true, true, true, true, true, true, true, true, true, true, true, true, true, false] rfl rfl (one_of HT_.out (by kernel_rfl)) (by decide) (fun K hK => ?_)
            have hs22 : w21.cell? ⟨gb479, 0, none⟩ = some (.int .i64 0) := (blk_cell BK479.out 0).trans rfl
            have hfs22 := blk_frozen BK479.out 0
            have hns22_0 := NB465_479.out
            have hns22_1 := NB466_479.out
            have hms22_0 := NB479_465.out
            have hms22_1 := NB479_466.out
            have hs23 : w21.cell? ⟨gb479, 1, none⟩ = some (.int .i64 0) := (blk_cell BK479.out 1).trans rfl
            have hfs23 := blk_frozen BK479.out 1
            have hns23_0 := NB465_479.out
            have hns23_1 := NB466_479.out
            have hms23_0 := NB479_465.out
            have hms23_1 := NB479_466.out
            have hs24 : w21.cell? ⟨gb479, 2, none⟩ = some (.int .i64 0) := (blk_cell BK479.out 2).trans rfl
            have hfs24 := blk_frozen BK479.out 2
            have hns24_0 := NB465_479.out
            have hns24_1 := NB466_479.out
            have hms24_0 := NB479_465.out
            have hms24_1 := NB479_466.out
            refine skip_ (w1 := ?_) (by rfl) rfl ?_ ?_
            rotate_left
            · go_simp
              rfl
            refine hK.out _ _ ⟨((cell_far (p := ⟨gb479, _, none⟩) NB465_479.out _).trans (((cell_far (p := ⟨gb479, _, none⟩) NB465_479.out _).trans (((cell_far (p := ⟨gb479, _, none⟩) NB465_479.out _).trans (hHeld.1)))))), ((cell_far (p := ⟨gb479, _, none⟩) NB465_479.out _).trans (((cell_far (p := ⟨gb479, _, none⟩) NB465_479.out _).trans (((cell_far (p := ⟨gb479, _, none⟩) NB465_479.out _).trans (hHeld.2.1)))))), ((cell_far (p := ⟨gb479, _, none⟩) NB465_479.out _).trans (((cell_far (p := ⟨gb479, _, none⟩) NB465_479.out _).trans (((cell_far (p := ⟨gb479, _, none⟩) NB465_479.out _).trans (hHeld.2.2.1)))))), ((cell_far (p := ⟨gb479, _, none⟩) NB465_479.out _).trans (((cell_far (p := ⟨gb479, _, none⟩) NB465_479.out _).trans (((cell_far (p := ⟨gb479, _, none⟩) NB465_479.out _).trans (hHeld.2.2.2.1)))))), ((cell_far (p := ⟨gb479, _, none⟩) NB466_479.out _).trans (((cell_far (p := ⟨gb479, _, none⟩) NB466_479.out _).trans (((cell_far (p := ⟨gb479, _, none⟩) NB466_479.out _).trans (hHeld.2.2.2.2.1)))))), ((cell_far (p := ⟨gb479, _, none⟩) NB466_479.out _).trans (((cell_far (p := ⟨gb479, _, none⟩) NB466_479.out _).trans (((cell_far (p := ⟨gb479, _, none⟩) NB466_479.out _).trans (hHeld.2.2.2.2.2.1)))))), ((cell_far (p := ⟨gb479, _, none⟩) NB466_479.out _).trans (((cell_far (p := ⟨gb479, _, none⟩) NB466_479.out _).trans (((cell_far (p := ⟨gb479, _, none⟩) NB466_479.out _).trans (hHeld.2.2.2.2.2.2.1)))))), ((cell_far (p := ⟨gb479, _, none⟩) (by first | exact Nat.ne_of_lt (Nat.lt_of_lt_of_le (by have := World.block_lt_of_cell? _ _ hw474_0; first | rwa [add_block] at this | exact this) GW479.out) | (rw [add_block]; exact Nat.ne_of_lt (Nat.lt_of_lt_of_le (by have := World.block_lt_of_cell? _ _ hw474_0; first | rwa [add_block] at this | exact this) GW479.out)) | (show (Addr.add _ _).block ≠ _; rw [add_block]; exact Nat.ne_of_lt (Nat.lt_of_lt_of_le (by have := World.block_lt_of_cell? _ _ hw474_0; first | rwa [add_block] at this | exact this) GW479.out)) | (dsimp only; exact Nat.ne_of_lt (Nat.lt_of_lt_of_le (by have := World.block_lt_of_cell? _ _ hw474_0; first | rwa [add_block] at this | exact this) GW479.out))) _).trans (((cell_far (p := ⟨gb479, _, none⟩) (by first | exact Nat.ne_of_lt (Nat.lt_of_lt_of_le (by have := World.block_lt_of_cell? _ _ hw474_0; first | rwa [add_block] at this | exact this) GW479.out) | (rw [add_block]; exact Nat.ne_of_lt (Nat.lt_of_lt_of_le (by have := World.block_lt_of_cell? _ _ hw474_0; first | rwa [add_block] at this | exact this) GW479.out)) | (show (Addr.add _ _).block ≠ _; rw [add_block]; exact Nat.ne_of_lt (Nat.lt_of_lt_of_le (by have := World.block_lt_of_cell? _ _ hw474_0; first | rwa [add_block] at this | exact this) GW479.out)) | (dsimp only; exact Nat.ne_of_lt (Nat.lt_of_lt_of_le (by have := World.block_lt_of_cell? _ _ hw474_0; first | rwa [add_block] at this | exact this) GW479.out))) _).trans (((cell_far (p := ⟨gb479, _, none⟩) (by first | exact Nat.ne_of_lt (Nat.lt_of_lt_of_le (by have := World.block_lt_of_cell? _ _ hw474_0; first | rwa [add_block] at this | exact this) GW479.out) | (rw [add_block]; exact Nat.ne_of_lt (Nat.lt_of_lt_of_le (by have := World.block_lt_of_cell? _ _ hw474_0; first | rwa [add_block] at this | exact this) GW479.out)) | (show (Addr.add _ _).block ≠ _; rw [add_block]; exact Nat.ne_of_lt (Nat.lt_of_lt_of_le (by have := World.block_lt_of_cell? _ _ hw474_0; first | rwa [add_block] at this | exact this) GW479.out)) | (dsimp only; exact Nat.ne_of_lt (Nat.lt_of_lt_of_le (by have := World.block_lt_of_cell? _ _ hw474_0; first | rwa [add_block] at this | exact this) GW479.out))) _).trans (hHeld.2.2.2.2.2.2.2))))))⟩ (fun hHeld => ?_)
            clear hK K
            refine pure_ (i := 13) (N := some 17) (v := ?_) (a' := ?_) #[true, true, true, true, true, true, true, true, true, true, true, true, true, true] rfl rfl (any_of HT_.out (by kernel_rfl)) (fun _ _ _ h => h) (Or.inl ⟨by rfl, ?_⟩) ?_ ?_
            rotate_left
            · intro w'
              go_simp
              with_reducible rfl
            rotate_left
            · simp only [Act.put, List.setIfInBounds_toArray, List.set_cons_zero, List.set_cons_succ, i64_w, i32_w]
              rfl
            refine done_ (done_of HT_.out (by kernel_rfl)) ?_
            try go_wp2
            go_loopg [15, 17] k1 (fun kq v15 v17 w' => ∃ (x15_2 : Int) (x17_2 : Bool) (x480000_2 : Int) (x480001_2 : Int) (x480002_2 : Int), v15 = .int .i64 x15_2 ∧ v17 = .bool x17_2 ∧ Aside0 (spec_LeastReplenished.l1 kq l2 a3 x12_1 x13_1 x14_1 x15_2 x17_2 a0_0 a0_1 a0_2 a0_3 x467000_1 x467001_1 x467002_1 x480000_2 x480001_2 x480002_2 = some (r1, r2, r3)) ∧ Aside0 (kq ≤ k1) ∧ Aside0 (Kd.R (Kd.int .i64) 2 w' w.heap.size (fun _ => True) u12 x12_1) ∧ Aside0 (w'.heap[gb465]? = some (.cells #[.int .i64 a0_0, .int .i64 a0_1, .int .i8 a0_2, .int .i8 a0_3] 43 (0, 0))) ∧ Aside0 (w'.heap[gb466]? = some (.cells #[.int .i64 x467000_1, .int .i64 x467001_1, .int .i64 x467002_1] 45 (0, 0))) ∧ Aside0 (w'.heap[gb479]? = some (.cells #[.int .i64 x480000_2, .int .i64 x480001_2, .int .i64 x480002_2] 45 (0, 0))) ∧ Aside0 (Below w.heap.size w w'))
            case atStart => exact ⟨(0), (t478), (t475), (t476), (t477), (by first | rfl | (simp; done) | (simp [*]; done)), (by first | rfl | (simp; done) | (simp [*]; done)), H', ⟨Nat.le_refl _⟩, ⟨by (with_reducible repeat (first | apply Kd.R_alloc | apply Kd.R_drewN | apply Kd.R_drew)); exact Kd.R_mono (Kd.R_far (p := ⟨gb479, 2, none⟩) (Kd.R_far (p := ⟨gb479, 1, none⟩) (Kd.R_far (p := ⟨gb479, 0, none⟩) (Kd.R_types HO_12.out BK479.out (by decide)) (fun _ hk => hk.2) (.int .i64 t475)) (fun _ hk => hk.2) (.int .i64 t476)) (fun _ hk => hk.2) (.int .i64 t477)) (fun _ hk => trivial)⟩, ⟨by (with_reducible repeat (first | refine blk_drewN ?_ _ | refine blk_drew ?_ | refine blk_alloc ?_ _)); refine blk_far ?_ NB465_479.out _; (with_reducible repeat (first | refine blk_drewN ?_ _ | refine blk_drew ?_ | refine blk_alloc ?_ _)); refine blk_far ?_ NB465_479.out _; (with_reducible repeat (first | refine blk_drewN ?_ _ | refine blk_drew ?_ | refine blk_alloc ?_ _)); refine blk_far ?_ NB465_479.out _; (with_reducible repeat (first | refine blk_drewN ?_ _ | refine blk_drew ?_ | refine blk_alloc ?_ _)); exact BK465.out⟩, ⟨by (with_reducible repeat (first | refine blk_drewN ?_ _ | refine blk_drew ?_ | refine blk_alloc ?_ _)); refine blk_far ?_ NB466_479.out _; (with_reducible repeat (first | refine blk_drewN ?_ _ | refine blk_drew ?_ | refine blk_alloc ?_ _)); refine blk_far ?_ NB466_479.out _; (with_reducible repeat (first | refine blk_drewN ?_ _ | refine blk_drew ?_ | refine blk_alloc ?_ _)); refine blk_far ?_ NB466_479.out _; (with_reducible repeat (first | refine blk_drewN ?_ _ | refine blk_drew ?_ | refine blk_alloc ?_ _)); exact BK466.out⟩, ⟨by (with_reducible repeat (first | refine blk_drewN ?_ _ | refine blk_drew ?_ | refine blk_alloc ?_ _)); refine blk_put (cs := #[.int .i64 t475, .int .i64 t476, .int .i64 0]) ?_ 2 _ rfl; (with_reducible repeat (first | refine blk_drewN ?_ _ | refine blk_drew ?_ | refine blk_alloc ?_ _)); refine blk_put (cs := #[.int .i64 t475, .int .i64 0, .int .i64 0]) ?_ 1 _ rfl; (with_reducible repeat (first | refine blk_drewN ?_ _ | refine blk_drew ?_ | refine blk_alloc ?_ _)); refine blk_put (cs := #[.int .i64 0, .int .i64 0, .int .i64 0]) ?_ 0 _ rfl; (with_reducible repeat (first | refine blk_drewN ?_ _ | refine blk_drew ?_ | refine blk_alloc ?_ _)); exact BK479.out⟩, ⟨by repeat (first | (with_reducible first | exact HB.out | apply below_alloc | apply pw_below_drewN | apply below_drew1 | refine below_set ?_ GE465.out | refine below_set ?_ GE466.out | refine below_set ?_ GE479.out) | exact HB.out)⟩⟩
            case round =>
              clear H'
              try clear c1
              try clear c2
              try clear p2
              try clear c4
              try clear p4
              try clear q4
              try clear hx4
              try clear c6
              try clear c6b0
              try clear c6b1
              try clear c7
              try clear c9
              try clear c15
              try clear c15b0
              try clear c16
              try clear c16b0
              try clear hcz10_0
              try clear hcz10_1
              try clear hcz10_2
              try clear hcz10_3
              try clear hcz11_0
              try clear hcz11_1
              try clear hcz11_2
              try clear hfz10_0
              try clear hfz10_1
              try clear hfz10_2
              try clear hfz10_3
              try clear hfz11_0
              try clear hfz11_1
              try clear hfz11_2
              try clear hx474_0
              try clear p2
              try clear p474
              try clear q474
              obtain ⟨x15_2, x17_2, x480000_2, x480001_2, x480002_2, rfl, rfl, HA, HK2, HO_12, BK465, BK466, BK479, HB⟩ := hrel
              cases gk with
              | zero => exact absurd HA.out (by simp [spec_LeastReplenished.l1])
              | succ k2 =>
                have H := HA.out
                clear HA
                simp only [spec_LeastReplenished.l1] at H
                have HC25 := Aside0.mk H
                clear H
                go_upto_region 11 with (fail)
                go_cut [52] (fun v52 wc => ∃ (kq : Nat) (x52_24 : Bool), v52 = .bool x52_24 ∧ Aside0 (spec_LeastReplenished.j2 kq l2 a3 x12_1 x13_1 x14_1 x15_2 x17_2 x52_24 a0_0 a0_1 a0_2 a0_3 x467000_1 x467001_1 x467002_1 x480000_2 x480001_2 x480002_2 = some (r1, r2, r3)) ∧ Aside0 (kq ≤ k2) ∧ Aside0 (Kd.R (Kd.int .i64) 2 wc w.heap.size (fun _ => True) u12 x12_1) ∧ Aside0 (wc.heap[gb465]? = some (.cells #[.int .i64 a0_0, .int .i64 a0_1, .int .i8 a0_2, .int .i8 a0_3] 43 (0, 0))) ∧ Aside0 (wc.heap[gb466]? = some (.cells #[.int .i64 x467000_1, .int .i64 x467001_1, .int .i64 x467002_1] 45 (0, 0))) ∧ Aside0 (wc.heap[gb479]? = some (.cells #[.int .i64 x480000_2, .int .i64 x480001_2, .int .i64 x480002_2] 45 (0, 0))) ∧ Aside0 (Below w.heap.size w wc))
                case first =>
                  have H := HC25.out
                  clear HC25
                  by_cases c26 : x17_2 = true
                  · subst c26
                    have H1 : (spec_LeastReplenished.j2 k2 l2 a3 x12_1 x13_1 x14_1 x15_2 true false a0_0 a0_1 a0_2 a0_3 x467000_1 x467001_1 x467002_1 x480000_2 x480001_2 x480002_2) = some (r1, r2, r3) := by rw [if_pos rfl] at H; exact H
                    clear H
                    have H := H1
                    clear H1
                    have H' := Aside0.mk H
                    clear H
                    go_wp2
                    go_meet
                    case rel => exact ⟨_, (false), (by first | rfl | (simp; done) | (simp [*]; done)), H', ⟨by have := HK1.out; have := HK2.out; first | omega | exact Nat.le_refl _⟩, ⟨by (with_reducible repeat (first | apply Kd.R_alloc | apply Kd.R_drewN | apply Kd.R_drew)); exact HO_12.out⟩, ⟨by (with_reducible repeat (first | refine blk_drewN ?_ _ | refine blk_drew ?_ | refine blk_alloc ?_ _)); exact BK465.out⟩, ⟨by (with_reducible repeat (first | refine blk_drewN ?_ _ | refine blk_drew ?_ | refine blk_alloc ?_ _)); exact BK466.out⟩, ⟨by (with_reducible repeat (first | refine blk_drewN ?_ _ | refine blk_drew ?_ | refine blk_alloc ?_ _)); exact BK479.out⟩, ⟨by repeat (first | (with_reducible first | exact HB.out | apply below_alloc | apply pw_below_drewN | apply below_drew1 | refine below_set ?_ GE465.out | refine below_set ?_ GE466.out | refine below_set ?_ GE479.out) | exact HB.out)⟩⟩
                  · replace c26 := Bool.eq_false_iff.mpr c26
                    subst c26
                    have H1 : (spec_LeastReplenished.j2 k2 l2 a3 x12_1 x13_1 x14_1 x15_2 false (decide (x15_2 < x467000_1)) a0_0 a0_1 a0_2 a0_3 x467000_1 x467001_1 x467002_1 x480000_2 x480001_2 x480002_2) = some (r1, r2, r3) := by rw [if_neg (show ¬ (false = true) by decide)] at H; exact H
                    clear H
                    have H := H1
                    clear H1
                    have H' := Aside0.mk H
                    clear H
                    have hnb27 := NB466_465.out
                    have hnc27 := NB465_466.out
                    have hnb28 := NB466_479.out
                    have hnc28 := NB479_466.out
                    have hcz29_0 := blk_c BK466.out 0 rfl
                    have hcz29_1 := blk_c BK466.out 1 rfl
                    have hcz29_2 := blk_c BK466.out 2 rfl
                    have hfz29_0 := blk_frozen BK466.out 0
                    have hfz29_1 := blk_frozen BK466.out 1
                    have hfz29_2 := blk_frozen BK466.out 2
                    go_wp2
                    go_meet
                    case rel => exact ⟨_, (decide (x15_2 < x467000_1)), (by first | rfl | (simp; done) | (simp [*]; done)), H', ⟨by have := HK1.out; have := HK2.out; first | omega | exact Nat.le_refl _⟩, ⟨by (with_reducible repeat (first | apply Kd.R_alloc | apply Kd.R_drewN | apply Kd.R_drew)); exact HO_12.out⟩, ⟨by (with_reducible repeat (first | refine blk_drewN ?_ _ | refine blk_drew ?_ | refine blk_alloc ?_ _)); exact BK465.out⟩, ⟨by (with_reducible repeat (first | refine blk_drewN ?_ _ | refine blk_drew ?_ | refine blk_alloc ?_ _)); exact BK466.out⟩, ⟨by (with_reducible repeat (first | refine blk_drewN ?_ _ | refine blk_drew ?_ | refine blk_alloc ?_ _)); exact BK479.out⟩, ⟨by repeat (first | (with_reducible first | exact HB.out | apply below_alloc | apply pw_below_drewN | apply below_drew1 | refine below_set ?_ GE465.out | refine below_set ?_ GE466.out | refine below_set ?_ GE479.out) | exact HB.out)⟩⟩
                case rest =>
                  clear HC25
                  try clear c1
                  try clear c2
                  try clear p2
                  try clear c4
                  try clear p4
                  try clear q4
                  try clear hx4
                  try clear c6
                  try clear c6b0
                  try clear c6b1
                  try clear c7
                  try clear c9
                  try clear c15
                  try clear c15b0
                  try clear c16
                  try clear c16b0
                  try clear c26
                  try clear c27
                  try clear c28
                  try clear hcz10_0
                  try clear hcz10_1
                  try clear hcz10_2
                  try clear hcz10_3
                  try clear hcz11_0
                  try clear hcz11_1
                  try clear hcz11_2
                  try clear hcz29_0
                  try clear hcz29_1
                  try clear hcz29_2
                  try clear hfz10_0
                  try clear hfz10_1
                  try clear hfz10_2
                  try clear hfz10_3
                  try clear hfz11_0
                  try clear hfz11_1
                  try clear hfz11_2
                  try clear hfz29_0
                  try clear hfz29_1
                  try clear hfz29_2
                  try clear hx474_0
                  try clear p2
                  try clear p4
                  try clear p474
                  try clear q4
                  try clear q474
                  obtain ⟨kq, x52_24, rfl, HA, HJ24, HO_12, BK465, BK466, BK479, HB⟩ := hcut
                  cases kq with
                  | zero => exact absurd HA.out (by simp [spec_LeastReplenished.j2])
                  | succ kj24 =>
                    have H := HA.out
                    clear HA
                    simp only [spec_LeastReplenished.j2] at H
                    by_cases c30 : x52_24 = true
                    · subst c30
                      have H1 : ((spec_l04Fill.f x467000_1 x467001_1 x467002_1 (wrap64 (x15_2 + 1))).bind fun bt480 => (if 0 ≤ x14_1 then (if x14_1 < (l2.length : Int) then ((spec_l04Ready.f kj24 a0_0 a0_1 a0_2 a0_3 bt480.1 bt480.2.1 bt480.2.2 (rd l2 x14_1) a3).bind fun bt484 => (spec_LeastReplenished.l1 kj24 l2 a3 x12_1 x13_1 x14_1 (wrap64 (x15_2 + 1)) bt484.2.2.2 a0_0 a0_1 a0_2 a0_3 x467000_1 x467001_1 x467002_1 bt484.1 bt484.2.1 bt484.2.2.1)) else (none)) else (none))) = some (r1, r2, r3) := by rw [if_pos rfl] at H; exact H
                      clear H
                      have H := H1
                      clear H1
                      replace H := Option.bind_eq_some_iff.mp H
                      obtain ⟨⟨t480, t481, t482⟩, A310, H⟩ := H
                      replace H : (if 0 ≤ x14_1 then (if x14_1 < (l2.length : Int) then ((spec_l04Ready.f kj24 a0_0 a0_1 a0_2 a0_3 t480 t481 t482 (rd l2 x14_1) a3).bind fun bt484 => (spec_LeastReplenished.l1 kj24 l2 a3 x12_1 x13_1 x14_1 (wrap64 (x15_2 + 1)) bt484.2.2.2 a0_0 a0_1 a0_2 a0_3 x467000_1 x467001_1 x467002_1 bt484.1 bt484.2.1 bt484.2.2.1)) else (none)) else (none)) = some (r1, r2, r3) := H
                      have A31 := Aside0.mk A310
                      clear A310
                      by_cases c32 : 0 ≤ x14_1
                      · rw [if_pos c32] at H
                        have c32b0 : decide (0 ≤ x14_1) = true := decide_eq_true c32
                        clear c32
                        by_cases c33 : x14_1 < (l2.length : Int)
                        · rw [if_pos c33] at H
                          have c33b0 : decide (x14_1 < (l2.length : Int)) = true := decide_eq_true c33
                          clear c33
                          replace H := Option.bind_eq_some_iff.mp H
                          obtain ⟨⟨t484, t485, t486, t487⟩, A340, H⟩ := H
                          replace H : (spec_LeastReplenished.l1 kj24 l2 a3 x12_1 x13_1 x14_1 (wrap64 (x15_2 + 1)) t487 a0_0 a0_1 a0_2 a0_3 x467000_1 x467001_1 x467002_1 t484 t485 t486) = some (r1, r2, r3) := H
                          have A34 := Aside0.mk A340
                          clear A340
                          have H' := Aside0.mk H
                          clear H
                          try go_wp2
                          have n0_ := Aside0.mk (Kd.R_drew HO_12.out)
                          have n1_ := Aside0.mk (blk_drew BK465.out)
                          have n2_ := Aside0.mk (blk_drew BK466.out)
                          have n3_ := Aside0.mk (blk_drew BK479.out)
                          have n4_ := Aside0.mk (below_drew1 HB.out)
                          clear HO_12
                          clear BK465
                          clear BK466
                          clear BK479
                          clear HB
                          have HO_12 := n0_
                          have BK465 := n1_
                          have BK466 := n2_
                          have BK479 := n3_
                          have HB := n4_
                          clear n0_ n1_ n2_ n3_ n4_
                          have p483 : 0 ≤ (x14_1 : Int) := of_decide_eq_true (by first | (with_reducible assumption) | assumption)
                          have q483 : x14_1 < (l2.length : Int) := of_decide_eq_true (by first | (with_reducible assumption) | assumption)
                          obtain ⟨ad483, e483, hx483_0⟩ := Kd.at_int HR2.out x14_1 p483 q483
                          have hw483_0 := hx483_0
                          obtain rfl : ad474 = ad483 := (by injection e483)
                          replace hx483_0 := (HB.out.cell (World.block_lt_of_cell? w _ hx483_0)).trans hx483_0
                          replace p483 := eq_true p483
                          replace q483 := eq_true q483
                          refine start_ (n := 15) (S := fun w' => w'.cell? ⟨gb465, 0, none⟩ = some (.int .i64 a0_0) ∧ w'.cell? ⟨gb465, 1, none⟩ = some (.int .i64 a0_1) ∧ w'.cell? ⟨gb465, 2, none⟩ = some (.int .i8 a0_2) ∧ w'.cell? ⟨gb465, 3, none⟩ = some (.int .i8 a0_3) ∧ w'.cell? ⟨gb466, 0, none⟩ = some (.int .i64 x467000_1) ∧ w'.cell? ⟨gb466, 1, none⟩ = some (.int .i64 x467001_1) ∧ w'.cell? ⟨gb466, 2, none⟩ = some (.int .i64 x467002_1) ∧ w'.cell? (ad474.add (x14_1).toNat) = some (.int .i64 (rd l2 x14_1))) (ds := []) #[false, false, false, false, false, false, false, false, false, false, false, false, false, false, false] (by kernel_rfl) rfl rfl ⟨(blk_cell BK465.out 0).trans rfl, (blk_cell BK465.out 1).trans rfl, (blk_cell BK465.out 2).trans rfl, (blk_cell BK465.out 3).trans rfl, (blk_cell BK466.out 0).trans rfl, (blk_cell BK466.out 1).trans rfl, (blk_cell BK466.out 2).trans rfl, ((HB.out.cell (World.block_lt_of_cell? w _ hw483_0)).trans hw483_0)⟩ (fun hHeld => ?_); refine with_tabW spec_LeastReplenished.tab13 spec_LeastReplenished.bits13 (fun HT_ HW_ => ?_)
                          generalize wc.drew = w35 at HO_12 BK465 BK466 BK479 HB hx483_0 hHeld ⊢
                          refine pure_ (i := 2) (N := some 58) (v := ?_) (a' := ?_) #[false, false, true, false, false, false, false, false, false, false, false, false, false, false, false] rfl rfl (any_of HT_.out (by kernel_rfl)) (fun _ _ _ h => h) (Or.inl ⟨by rfl, ?_⟩) ?_ ?_
                          rotate_left
                          · intro w'
                            go_simp
                            with_reducible rfl
                          rotate_left
                          · simp only [Act.put, List.setIfInBounds_toArray, List.set_cons_zero, List.set_cons_succ, i64_w, i32_w]
                            rfl
                          refine pure_ (i := 4) (N := some 60) (v := ?_) (a' := ?_) #[false, false, true, false, true, false, false, false, false, false, false, false, false, false, false] rfl rfl (any_of HT_.out (by kernel_rfl)) (fun _ _ _ h => h) (Or.inl ⟨by rfl, ?_⟩) ?_ ?_
                          rotate_left
                          · intro w'
                            go_simp
                            with_reducible rfl
                          rotate_left
                          · simp only [Act.put, List.setIfInBounds_toArray, List.set_cons_zero, List.set_cons_succ, i64_w, i32_w]
                            rfl
                          refine pure_ (i := 5) (N := some 61) (v := ?_) (a' := ?_) #[false, false, true, false, true, true, false, false, false, false, false, false, false, false, false] rfl rfl (any_of HT_.out (by kernel_rfl)) (fun _ _ _ h => h) (Or.inl ⟨by rfl, ?_⟩) ?_ ?_
                          rotate_left
                          · intro w'
                            go_simp
                            with_reducible rfl
                          rotate_left
                          · simp only [Act.put, List.setIfInBounds_toArray, List.set_cons_zero, List.set_cons_succ, i64_w, i32_w]
                            rfl
                          refine pure_ (i := 6) (N := some 62) (v := ?_) (a' := ?_) #[false, false, true, false, true, true, true, false, false, false, false, false, false, false, false] rfl rfl (any_of HT_.out (by kernel_rfl)) (fun _ _ _ h => h) (Or.inl ⟨by rfl, ?_⟩) ?_ ?_
                          rotate_left
                          · intro w'
                            go_simp
                            with_reducible rfl
                          rotate_left
                          · simp only [Act.put, List.setIfInBounds_toArray, List.set_cons_zero, List.set_cons_succ, i64_w, i32_w]
                            rfl
                          refine pure_ (i := 8) (N := some 64) (v := ?_) (a' := ?_) #[false, false, true, false, true, true, true, false, true, false, false, false, false, false, false] rfl rfl (any_of HT_.out (by kernel_rfl)) (fun _ _ _ h => h) (Or.inl ⟨by rfl, ?_⟩) ?_ ?_
                          rotate_left
                          · intro w'
                            go_simp
                            with_reducible rfl
                          rotate_left
                          · simp only [Act.put, List.setIfInBounds_toArray, List.set_cons_zero, List.set_cons_succ, i64_w, i32_w]
                            rfl
                          refine take_ (i := 0) (N := some 56) (v := ?_) (a' := ?_) #[true, false, true, false, true, true, true, false, true, false, false, false, false, false, false] rfl rfl (take_ofW HT_.out HW_.out (by kernel_rfl)) (fun _ _ _ h => h) (Or.inl ⟨by rfl, ?_⟩) hHeld ?_ ?_
                          rotate_left
                          · rintro w' ⟨s0, s1, s2, s3, s4, s5, s6, s7⟩
                            go_simp
                            with_reducible rfl
                          rotate_left
                          · simp only [Act.put, List.setIfInBounds_toArray, List.set_cons_zero, List.set_cons_succ, i64_w, i32_w]
                            rfl
                          refine take_ (i := 1) (N := some 57) (v := ?_) (a' := ?_) #[true, true, true, false, true, true, true, false, true, false, false, false, false, false, false] rfl rfl (take_ofW HT_.out HW_.out (by kernel_rfl)) (fun _ _ _ h => h) (Or.inl ⟨by rfl, ?_⟩) hHeld ?_ ?_
                          rotate_left
                          · rintro w' ⟨s0, s1, s2, s3, s4, s5, s6, s7⟩
                            go_simp
                            with_reducible rfl
                          rotate_left
                          · simp only [Act.put, List.setIfInBounds_toArray, List.set_cons_zero, List.set_cons_succ, i64_w, i32_w]
                            rfl
                          refine take_ (i := 7) (N := some 63) (v := ?_) (a' := ?_) #[true, true, true, false, true, true, true, true, true, false, false, false, false, false, false] rfl rfl (take_ofW HT_.out HW_.out (by kernel_rfl)) (fun _ _ _ h => h) (Or.inl ⟨by rfl, ?_⟩) hHeld ?_ ?_
                          rotate_left
                          · rintro w' ⟨s0, s1, s2, s3, s4, s5, s6, s7⟩
                            go_simp
                            with_reducible rfl
                          rotate_left
                          · simp only [Act.put, List.setIfInBounds_toArray, List.set_cons_zero, List.set_cons_succ, i64_w, i32_w]
                            rfl
                          refine one_ (i := 3) (N := some 59) #[true, true, true, true, true, true, true, true, true, false, false, false, false, false, false] rfl rfl (one_of HT_.out (by kernel_rfl)) (by decide) (fun K hK => ?_)
                          refine goes_ Try.func70 (by kernel_rfl) rfl #[.agg #[.int .i64 x467000_1, .int .i64 x467001_1, .int .i64 x467002_1], .int .i64 (wrap64 (x15_2 + 1))] (by rfl) rfl rfl (by (try simp only [List.map_toArray, List.map_cons, List.map_nil]); first | done | rfl | (simp only [List.length_drop, List.length_take]; rfl)) ?_
                          with_reducible refine (spec_l04Fill.calls x467000_1 x467001_1 x467002_1 (wrap64 (x15_2 + 1)) t480 t481 t482 _ A31.out).mono ?_
                          rintro e w36 ⟨rfl, hb⟩
                          refine ⟨_, rfl, ?_⟩
                          have n0_ := Aside0.mk (Kd.R_below HO_12.out hb)
                          have n1_ := Aside0.mk (blk_below BK465.out hb)
                          have n2_ := Aside0.mk (blk_below BK466.out hb)
                          have n3_ := Aside0.mk (blk_below BK479.out hb)
                          have n4_ := Aside0.mk (below_step HB.out hb)
                          clear HO_12
                          clear BK465
                          clear BK466
                          clear BK479
                          clear HB
                          have HO_12 := n0_
                          have BK465 := n1_
                          have BK466 := n2_
                          have BK479 := n3_
                          have HB := n4_
                          clear n0_ n1_ n2_ n3_ n4_
                          (try clear hb)
                          (try clear hb2)
                          (try clear hk)
                          (try clear hi)
                          refine hK.out _ _ ⟨(blk_cell BK465.out 0).trans rfl, (blk_cell BK465.out 1).trans rfl, (blk_cell BK465.out 2).trans rfl, (blk_cell BK465.out 3).trans rfl, (blk_cell BK466.out 0).trans rfl, (blk_cell BK466.out 1).trans rfl, (blk_cell BK466.out 2).trans rfl, ((HB.out.cell (World.block_lt_of_cell? w _ hw483_0)).trans hw483_0)⟩ (fun hHeld => ?_)
                          clear hK K
                          refine norm_ (a' := ?_) ?_ ?_
                          rotate_left
                          · show Act.put _ (some 59) _ = _
                            simp only [Act.put, List.setIfInBounds_toArray, List.set_cons_zero, List.set_cons_succ, i64_w, i32_w]
                            rfl
                          refine one_ (i := 9) (N := some 65) #[true, true, true, true, true, true, true, true, true, true, false, false, false, false, false] rfl rfl (one_of HT_.out (by kernel_rfl)) (by decide) (fun K hK => ?_)
                          refine goes_ Try.func74 (by kernel_rfl) rfl #[.agg #[.int .i64 a0_0, .int .i64 a0_1, .int .i8 a0_2, .int .i8 a0_3], .agg #[.int .i64 t480, .int .i64 t481, .int .i64 t482], .int .i64 (rd l2 x14_1), .int .i64 a3] (by rfl) rfl rfl (by (try simp only [List.map_toArray, List.map_cons, List.map_nil]); first | done | rfl | (simp only [List.length_drop, List.length_take]; rfl)) ?_
                          with_reducible refine (spec_l04Ready.calls kj24 a0_0 a0_1 a0_2 a0_3 t480 t481 t482 (rd l2 x14_1) a3 t484 t485 t486 t487 _ A34.out).mono ?_
                          rintro e w37 ⟨rfl, hb⟩
                          refine ⟨_, rfl, ?_⟩
                          have n0_ := Aside0.mk (Kd.R_below HO_12.out hb)
                          have n1_ := Aside0.mk (blk_below BK465.out hb)
                          have n2_ := Aside0.mk (blk_below BK466.out hb)
                          have n3_ := Aside0.mk (blk_below BK479.out hb)
                          have n4_ := Aside0.mk (below_step HB.out hb)
                          clear HO_12
                          clear BK465
                          clear BK466
                          clear BK479
                          clear HB
                          have HO_12 := n0_
                          have BK465 := n1_
                          have BK466 := n2_
                          have BK479 := n3_
                          have HB := n4_
                          clear n0_ n1_ n2_ n3_ n4_
                          (try clear hb)
                          (try clear hb2)
                          (try clear hk)
                          (try clear hi)
                          refine hK.out _ _ ⟨(blk_cell BK465.out 0).trans rfl, (blk_cell BK465.out 1).trans rfl, (blk_cell BK465.out 2).trans rfl, (blk_cell BK465.out 3).trans rfl, (blk_cell BK466.out 0).trans rfl, (blk_cell BK466.out 1).trans rfl, (blk_cell BK466.out 2).trans rfl, ((HB.out.cell (World.block_lt_of_cell? w _ hw483_0)).trans hw483_0)⟩ (fun hHeld => ?_)
                          clear hK K
                          refine norm_ (a' := ?_) ?_ ?_
                          rotate_left
                          · show Act.put _ (some 65) _ = _
                            simp only [Act.put, List.setIfInBounds_toArray, List.set_cons_zero, List.set_cons_succ, i64_w, i32_w]
                            rfl
                          refine pure_ (i := 10) (N := some 55) (v := ?_) (a' := ?_) #[true, true, true, true, true, true, true, true, true, true, true, false, false, false, false] rfl rfl (any_of HT_.out (by kernel_rfl)) (fun _ _ _ h => h) (Or.inl ⟨by rfl, ?_⟩) ?_ ?_
                          rotate_left
                          · intro w'
                            go_simp
                            with_reducible rfl
                          rotate_left
                          · simp only [Act.put, List.setIfInBounds_toArray, List.set_cons_zero, List.set_cons_succ, i64_w, i32_w]
                            rfl
                          refine pure_ (i := 11) (N := some 66) (v := ?_) (a' := ?_) #[true, true, true, true, true, true, true, true, true, true, true, true, false, false, false] rfl rfl (any_of HT_.out (by kernel_rfl)) (fun _ _ _ h => h) (Or.inl ⟨by rfl, ?_⟩) ?_ ?_
                          rotate_left
                          · intro w'
                            go_simp
                            with_reducible rfl
                          rotate_left
                          · simp only [Act.put, List.setIfInBounds_toArray, List.set_cons_zero, List.set_cons_succ, i64_w, i32_w]
                            rfl
                          refine pure_ (i := 12) (N := some 67) (v := ?_) (a' := ?_) #[true, true, true, true, true, true, true, true, true, true, true, true, true, false, false] rfl rfl (any_of HT_.out (by kernel_rfl)) (fun _ _ _ h => h) (Or.inl ⟨by rfl, ?_⟩) ?_ ?_
                          rotate_left
                          · intro w'
                            go_simp
                            with_reducible rfl
                          rotate_left
                          · simp only [Act.put, List.setIfInBounds_toArray, List.set_cons_zero, List.set_cons_succ, i64_w, i32_w]
                            rfl
                          refine one_ (i := 13) (N := none) #[true, true, true, true, true, true, true, true, true, true, true, true, true, true, false] rfl rfl (one_of HT_.out (by kernel_rfl)) (by decide) (fun K hK => ?_)
                          have hs38 : w37.cell? ⟨gb479, 0, none⟩ = some (.int .i64 x480000_2) := (blk_cell BK479.out 0).trans rfl
                          have hfs38 := blk_frozen BK479.out 0
                          have hns38_0 := NB465_479.out
                          have hns38_1 := NB466_479.out
                          have hms38_0 := NB479_465.out
                          have hms38_1 := NB479_466.out
                          have hs39 : w37.cell? ⟨gb479, 1, none⟩ = some (.int .i64 x480001_2) := (blk_cell BK479.out 1).trans rfl
                          have hfs39 := blk_frozen BK479.out 1
                          have hns39_0 := NB465_479.out
                          have hns39_1 := NB466_479.out
                          have hms39_0 := NB479_465.out
                          have hms39_1 := NB479_466.out
                          have hs40 : w37.cell? ⟨gb479, 2, none⟩ = some (.int .i64 x480002_2) := (blk_cell BK479.out 2).trans rfl
                          have hfs40 := blk_frozen BK479.out 2
                          have hns40_0 := NB465_479.out
                          have hns40_1 := NB466_479.out
                          have hms40_0 := NB479_465.out
                          have hms40_1 := NB479_466.out
                          refine skip_ (w1 := ?_) (by rfl) rfl ?_ ?_
                          rotate_left
                          · go_simp
                            rfl
                          refine hK.out _ _ ⟨((cell_far (p := ⟨gb479, _, none⟩) NB465_479.out _).trans (((cell_far (p := ⟨gb479, _, none⟩) NB465_479.out _).trans (((cell_far (p := ⟨gb479, _, none⟩) NB465_479.out _).trans (hHeld.1)))))), ((cell_far (p := ⟨gb479, _, none⟩) NB465_479.out _).trans (((cell_far (p := ⟨gb479, _, none⟩) NB465_479.out _).trans (((cell_far (p := ⟨gb479, _, none⟩) NB465_479.out _).trans (hHeld.2.1)))))), ((cell_far (p := ⟨gb479, _, none⟩) NB465_479.out _).trans (((cell_far (p := ⟨gb479, _, none⟩) NB465_479.out _).trans (((cell_far (p := ⟨gb479, _, none⟩) NB465_479.out _).trans (hHeld.2.2.1)))))), ((cell_far (p := ⟨gb479, _, none⟩) NB465_479.out _).trans (((cell_far (p := ⟨gb479, _, none⟩) NB465_479.out _).trans (((cell_far (p := ⟨gb479, _, none⟩) NB465_479.out _).trans (hHeld.2.2.2.1)))))), ((cell_far (p := ⟨gb479, _, none⟩) NB466_479.out _).trans (((cell_far (p := ⟨gb479, _, none⟩) NB466_479.out _).trans (((cell_far (p := ⟨gb479, _, none⟩) NB466_479.out _).trans (hHeld.2.2.2.2.1)))))), ((cell_far (p := ⟨gb479, _, none⟩) NB466_479.out _).trans (((cell_far (p := ⟨gb479, _, none⟩) NB466_479.out _).trans (((cell_far (p := ⟨gb479, _, none⟩) NB466_479.out _).trans (hHeld.2.2.2.2.2.1)))))), ((cell_far (p := ⟨gb479, _, none⟩) NB466_479.out _).trans (((cell_far (p := ⟨gb479, _, none⟩) NB466_479.out _).trans (((cell_far (p := ⟨gb479, _, none⟩) NB466_479.out _).trans (hHeld.2.2.2.2.2.2.1)))))), ((cell_far (p := ⟨gb479, _, none⟩) (by first | exact Nat.ne_of_lt (Nat.lt_of_lt_of_le (by have := World.block_lt_of_cell? _ _ hw483_0; first | rwa [add_block] at this | exact this) GW479.out) | (rw [add_block]; exact Nat.ne_of_lt (Nat.lt_of_lt_of_le (by have := World.block_lt_of_cell? _ _ hw483_0; first | rwa [add_block] at this | exact this) GW479.out)) | (show (Addr.add _ _).block ≠ _; rw [add_block]; exact Nat.ne_of_lt (Nat.lt_of_lt_of_le (by have := World.block_lt_of_cell? _ _ hw483_0; first | rwa [add_block] at this | exact this) GW479.out)) | (dsimp only; exact Nat.ne_of_lt (Nat.lt_of_lt_of_le (by have := World.block_lt_of_cell? _ _ hw483_0; first | rwa [add_block] at this | exact this) GW479.out))) _).trans (((cell_far (p := ⟨gb479, _, none⟩) (by first | exact Nat.ne_of_lt (Nat.lt_of_lt_of_le (by have := World.block_lt_of_cell? _ _ hw483_0; first | rwa [add_block] at this | exact this) GW479.out) | (rw [add_block]; exact Nat.ne_of_lt (Nat.lt_of_lt_of_le (by have := World.block_lt_of_cell? _ _ hw483_0; first | rwa [add_block] at this | exact this) GW479.out)) | (show (Addr.add _ _).block ≠ _; rw [add_block]; exact Nat.ne_of_lt (Nat.lt_of_lt_of_le (by have := World.block_lt_of_cell? _ _ hw483_0; first | rwa [add_block] at this | exact this) GW479.out)) | (dsimp only; exact Nat.ne_of_lt (Nat.lt_of_lt_of_le (by have := World.block_lt_of_cell? _ _ hw483_0; first | rwa [add_block] at this | exact this) GW479.out))) _).trans (((cell_far (p := ⟨gb479, _, none⟩) (by first | exact Nat.ne_of_lt (Nat.lt_of_lt_of_le (by have := World.block_lt_of_cell? _ _ hw483_0; first | rwa [add_block] at this | exact this) GW479.out) | (rw [add_block]; exact Nat.ne_of_lt (Nat.lt_of_lt_of_le (by have := World.block_lt_of_cell? _ _ hw483_0; first | rwa [add_block] at this | exact this) GW479.out)) | (show (Addr.add _ _).block ≠ _; rw [add_block]; exact Nat.ne_of_lt (Nat.lt_of_lt_of_le (by have := World.block_lt_of_cell? _ _ hw483_0; first | rwa [add_block] at this | exact this) GW479.out)) | (dsimp only; exact Nat.ne_of_lt (Nat.lt_of_lt_of_le (by have := World.block_lt_of_cell? _ _ hw483_0; first | rwa [add_block] at this | exact this) GW479.out))) _).trans (hHeld.2.2.2.2.2.2.2))))))⟩ (fun hHeld => ?_)
                          clear hK K
                          refine pure_ (i := 14) (N := some 17) (v := ?_) (a' := ?_) #[true, true, true, true, true, true, true, true, true, true, true, true, true, true, true] rfl rfl (any_of HT_.out (by kernel_rfl)) (fun _ _ _ h => h) (Or.inl ⟨by rfl, ?_⟩) ?_ ?_
                          rotate_left
                          · intro w'
                            go_simp
                            with_reducible rfl
                          rotate_left
                          · simp only [Act.put, List.setIfInBounds_toArray, List.set_cons_zero, List.set_cons_succ, i64_w, i32_w]
                            rfl
                          refine done_ (done_of HT_.out (by kernel_rfl)) ?_
                          try go_wp2
                          go_roundg kj24
                          case measure => have := HK1.out; have := HK2.out; have := HJ24.out; omega
                          case rel => exact ⟨(wrap64 (x15_2 + 1)), (t487), (t484), (t485), (t486), (by first | rfl | (simp; done) | (simp [*]; done)), (by first | rfl | (simp; done) | (simp [*]; done)), H', ⟨by have := HK1.out; have := HK2.out; have := HJ24.out; omega⟩, ⟨by (with_reducible repeat (first | apply Kd.R_alloc | apply Kd.R_drewN | apply Kd.R_drew)); exact Kd.R_mono (Kd.R_far (p := ⟨gb479, 2, none⟩) (Kd.R_far (p := ⟨gb479, 1, none⟩) (Kd.R_far (p := ⟨gb479, 0, none⟩) (Kd.R_types HO_12.out BK479.out (by decide)) (fun _ hk => hk.2) (.int .i64 t484)) (fun _ hk => hk.2) (.int .i64 t485)) (fun _ hk => hk.2) (.int .i64 t486)) (fun _ hk => trivial)⟩, ⟨by (with_reducible repeat (first | refine blk_drewN ?_ _ | refine blk_drew ?_ | refine blk_alloc ?_ _)); refine blk_far ?_ NB465_479.out _; (with_reducible repeat (first | refine blk_drewN ?_ _ | refine blk_drew ?_ | refine blk_alloc ?_ _)); refine blk_far ?_ NB465_479.out _; (with_reducible repeat (first | refine blk_drewN ?_ _ | refine blk_drew ?_ | refine blk_alloc ?_ _)); refine blk_far ?_ NB465_479.out _; (with_reducible repeat (first | refine blk_drewN ?_ _ | refine blk_drew ?_ | refine blk_alloc ?_ _)); exact BK465.out⟩, ⟨by (with_reducible repeat (first | refine blk_drewN ?_ _ | refine blk_drew ?_ | refine blk_alloc ?_ _)); refine blk_far ?_ NB466_479.out _; (with_reducible repeat (first | refine blk_drewN ?_ _ | refine blk_drew ?_ | refine blk_alloc ?_ _)); refine blk_far ?_ NB466_479.out _; (with_reducible repeat (first | refine blk_drewN ?_ _ | refine blk_drew ?_ | refine blk_alloc ?_ _)); refine blk_far ?_ NB466_479.out _; (with_reducible repeat (first | refine blk_drewN ?_ _ | refine blk_drew ?_ | refine blk_alloc ?_ _)); exact BK466.out⟩, ⟨by (with_reducible repeat (first | refine blk_drewN ?_ _ | refine blk_drew ?_ | refine blk_alloc ?_ _)); refine blk_put (cs := #[.int .i64 t484, .int .i64 t485, .int .i64 x480002_2]) ?_ 2 _ rfl; (with_reducible repeat (first | refine blk_drewN ?_ _ | refine blk_drew ?_ | refine blk_alloc ?_ _)); refine blk_put (cs := #[.int .i64 t484, .int .i64 x480001_2, .int .i64 x480002_2]) ?_ 1 _ rfl; (with_reducible repeat (first | refine blk_drewN ?_ _ | refine blk_drew ?_ | refine blk_alloc ?_ _)); refine blk_put (cs := #[.int .i64 x480000_2, .int .i64 x480001_2, .int .i64 x480002_2]) ?_ 0 _ rfl; (with_reducible repeat (first | refine blk_drewN ?_ _ | refine blk_drew ?_ | refine blk_alloc ?_ _)); exact BK479.out⟩, ⟨by repeat (first | (with_reducible first | exact HB.out | apply below_alloc | apply pw_below_drewN | apply below_drew1 | refine below_set ?_ GE465.out | refine below_set ?_ GE466.out | refine below_set ?_ GE479.out) | exact HB.out)⟩⟩
                        · rw [if_neg c33] at H
                          exact absurd H (by simp)
                      · rw [if_neg c32] at H
                        exact absurd H (by simp)
                    · replace c30 := Bool.eq_false_iff.mpr c30
                      subst c30
                      have H1 : (if x17_2 = true then (if x12_1.length < 17592186044416 then (spec_LeastReplenished.l0 kj24 l2 a3 (x12_1 ++ [x15_2]) (wrap64 (x13_1 + x15_2)) (wrap64 (x14_1 + 1)) a0_0 a0_1 a0_2 a0_3 x480000_2 x480001_2 x480002_2) else (none)) else (some ((([] : List Int)), 0, 6))) = some (r1, r2, r3) := by rw [if_neg (show ¬ (false = true) by decide)] at H; exact H
                      clear H
                      have H := H1
                      clear H1
                      by_cases c41 : x17_2 = true
                      · subst c41
                        have H1 : (if x12_1.length < 17592186044416 then (spec_LeastReplenished.l0 kj24 l2 a3 (x12_1 ++ [x15_2]) (wrap64 (x13_1 + x15_2)) (wrap64 (x14_1 + 1)) a0_0 a0_1 a0_2 a0_3 x480000_2 x480001_2 x480002_2) else (none)) = some (r1, r2, r3) := by rw [if_pos rfl] at H; exact H
                        clear H
                        have H := H1
                        clear H1
                        by_cases c42 : x12_1.length < 17592186044416
                        · rw [if_pos c42] at H
                          have LMc42 := Aside0.mk c42
                          clear c42
                          obtain ⟨y488, hy488⟩ : ∃ y_ : List Int, y_ = (x12_1 ++ [x15_2]) := ⟨_, rfl⟩
                          replace H : (spec_LeastReplenished.l0 kj24 l2 a3 y488 (wrap64 (x13_1 + x15_2)) (wrap64 (x14_1 + 1)) a0_0 a0_1 a0_2 a0_3 x480000_2 x480001_2 x480002_2) = some (r1, r2, r3) := by first | (rw [hy488]; with_reducible exact H) | (have H2_ := (Option.bind_some _ _).symm.trans H; rw [hy488]; with_reducible exact H2_) | (have H2_ := (Option.bind_some _ _).symm.trans H; with_reducible exact H2_) | with_reducible exact H | (rw [hy488]; exact H) | exact H
                          have Ny488 := Aside0.mk hy488
                          clear hy488
                          have H' := Aside0.mk H
                          clear H
                          go_wp2_with (first | ((with_reducible refine gate_builtin (b := .append) (xs := #[.tmp 71, .tmp 73]) rfl ?_); at_builtin; refine Kd.R_append (Kd.int .i64) (w0 := w) w.heap.size rfl (.tmp 71) (.tmp 73) 27 2 (.int .i64 0) 8 rfl Try.underlying27 info2 rfl (by decide) (by omega) u12 x12_1 x15_2 [.int .i64 x15_2] (fun _ => True) (fun _ => False) rfl rfl ?aP (fun _ hk => hk.elim) ?aF ?aO ?aB ?aS ?aL ?_; (case aP => exact rfl); (case aB => exact HB.out); (case aF => exact (fun _ _ => trivial)); (case aO => exact HO_12.out); (case aS => exact (below_size HB.out)); (case aL => have := LMc42.out; omega); intro v489 w43 ho hb hg hat; rw [← Ny488.out] at ho; have n0_ := Aside0.mk (blk_grown BK465.out hg (Kd.R_ne HO_12.out BK465.out (by decide))); have n1_ := Aside0.mk (blk_grown BK466.out hg (Kd.R_ne HO_12.out BK466.out (by decide))); have n2_ := Aside0.mk (blk_grown BK479.out hg (Kd.R_ne HO_12.out BK479.out (by decide))); have n3_ := Aside0.mk (hb); have n4_ := Aside0.mk (ho); clear BK465; clear BK466; clear BK479; clear HB; clear HO_12; have BK465 := n0_; have BK466 := n1_; have BK479 := n2_; have HB := n3_; have HO490 := n4_; clear n0_ n1_ n2_ n3_ n4_; clear ho hb hg hat; have hnb44 := NB479_465.out; have hnc44 := NB465_479.out; have hnb45 := NB479_466.out; have hnc45 := NB466_479.out; have hcz46_0 := blk_c BK479.out 0 rfl; have hcz46_1 := blk_c BK479.out 1 rfl; have hcz46_2 := blk_c BK479.out 2 rfl; have hfz46_0 := blk_frozen BK479.out 0; have hfz46_1 := blk_frozen BK479.out 1; have hfz46_2 := blk_frozen BK479.out 2; have hnb47 := NB466_465.out; have hnc47 := NB465_466.out; have hcz48_0 := blk_c BK466.out 0 rfl; have hcz48_1 := blk_c BK466.out 1 rfl; have hcz48_2 := blk_c BK466.out 2 rfl; have hfz48_0 := blk_frozen BK466.out 0; have hfz48_1 := blk_frozen BK466.out 1; have hfz48_2 := blk_frozen BK466.out 2))
                          go_roundg kj24
                          case measure => have := HK1.out; have := HK2.out; have := HJ24.out; omega
                          case rel => exact ⟨(y488), (wrap64 (x13_1 + x15_2)), (wrap64 (x14_1 + 1)), (x480000_2), (x480001_2), (x480002_2), (by first | rfl | (simp; done) | (simp [*]; done)), (by first | rfl | (simp; done) | (simp [*]; done)), H', ⟨by have := HK1.out; have := HK2.out; have := HJ24.out; omega⟩, ⟨by (with_reducible repeat (first | apply Kd.R_alloc | apply Kd.R_drewN | apply Kd.R_drew)); exact Kd.R_mono (Kd.R_far (p := ⟨gb466, 2, none⟩) (Kd.R_far (p := ⟨gb466, 1, none⟩) (Kd.R_far (p := ⟨gb466, 0, none⟩) (Kd.R_types HO490.out BK466.out (by decide)) (fun _ hk => hk.2) (.int .i64 x480000_2)) (fun _ hk => hk.2) (.int .i64 x480001_2)) (fun _ hk => hk.2) (.int .i64 x480002_2)) (fun _ hk => trivial)⟩, ⟨by (with_reducible repeat (first | refine blk_drewN ?_ _ | refine blk_drew ?_ | refine blk_alloc ?_ _)); refine blk_far ?_ NB465_466.out _; (with_reducible repeat (first | refine blk_drewN ?_ _ | refine blk_drew ?_ | refine blk_alloc ?_ _)); refine blk_far ?_ NB465_466.out _; (with_reducible repeat (first | refine blk_drewN ?_ _ | refine blk_drew ?_ | refine blk_alloc ?_ _)); refine blk_far ?_ NB465_466.out _; (with_reducible repeat (first | refine blk_drewN ?_ _ | refine blk_drew ?_ | refine blk_alloc ?_ _)); exact BK465.out⟩, ⟨by (with_reducible repeat (first | refine blk_drewN ?_ _ | refine blk_drew ?_ | refine blk_alloc ?_ _)); refine blk_put (cs := #[.int .i64 x480000_2, .int .i64 x480001_2, .int .i64 x467002_1]) ?_ 2 _ rfl; (with_reducible repeat (first | refine blk_drewN ?_ _ | refine blk_drew ?_ | refine blk_alloc ?_ _)); refine blk_put (cs := #[.int .i64 x480000_2, .int .i64 x467001_1, .int .i64 x467002_1]) ?_ 1 _ rfl; (with_reducible repeat (first | refine blk_drewN ?_ _ | refine blk_drew ?_ | refine blk_alloc ?_ _)); refine blk_put (cs := #[.int .i64 x467000_1, .int .i64 x467001_1, .int .i64 x467002_1]) ?_ 0 _ rfl; (with_reducible repeat (first | refine blk_drewN ?_ _ | refine blk_drew ?_ | refine blk_alloc ?_ _)); exact BK466.out⟩, ⟨by repeat (first | (with_reducible first | exact HB.out | apply below_alloc | apply pw_below_drewN | apply below_drew1 | refine below_set ?_ GE465.out | refine below_set ?_ GE466.out | refine below_set ?_ GE479.out) | exact HB.out)⟩⟩
                        · rw [if_neg c42] at H
                          exact absurd H (by simp)
                      · replace c41 := Bool.eq_false_iff.mpr c41
                        subst c41
                        have H1 : (some ((([] : List Int)), 0, 6)) = some (r1, r2, r3) := by rw [if_neg (show ¬ (false = true) by decide)] at H; exact H
                        clear H
                        have H := H1
                        clear H1
                        obtain ⟨y491, hy491⟩ : ∃ y_ : List Int, y_ = (([] : List Int)) := ⟨_, rfl⟩
                        replace H : (some (y491, 0, 6)) = some (r1, r2, r3) := by first | (rw [hy491]; with_reducible exact H) | (have H2_ := (Option.bind_some _ _).symm.trans H; rw [hy491]; with_reducible exact H2_) | (have H2_ := (Option.bind_some _ _).symm.trans H; with_reducible exact H2_) | with_reducible exact H | (rw [hy491]; exact H) | exact H
                        have Ny491 := Aside0.mk hy491
                        clear hy491
                        simp only [Option.some.injEq, Prod.mk.injEq] at H
                        obtain ⟨rfl, rfl, rfl⟩ := H
                        go_wp2_with (first | ((with_reducible refine gate_dst (N := 70) rfl ?_); refine Kd.R_lit (Kd.int .i64) _ 2 ?hg (N := 70) ?hd (xs := ([] : List Int)) (inner := []) (ok := fun _ => True) (okp := fun _ => True) ?hr ?hp (fun _ hk => hk) trivial (Below.refl _ _) (Nat.le_refl _) (by simp) ?_; (case hd => rfl); (case hg => rfl); (case hr => first | (go_simp; done) | (go_simp; rfl)); (case hp => exact (Reps.none _ _)); intro v492 w49 ho50 hb hg_ hnew_; clear hg_ hnew_; (first | rw [← Ny491.out] at ho50 | (simp only [Int.reduceToNat] at ho50; rw [← Ny491.out] at ho50)); have n0_ := Aside0.mk (Kd.R_elder' HO_12.out (Kd.R_base ho50) hb); have n1_ := Aside0.mk (Kd.R_lower (Kd.R_new' ho50 (Kd.R_lt HO_12.out)) (below_size HB.out)); have n2_ := Aside0.mk (blk_below BK465.out hb); have n3_ := Aside0.mk (blk_below BK466.out hb); have n4_ := Aside0.mk (blk_below BK479.out hb); have n5_ := Aside0.mk (below_step HB.out hb); clear HO_12; clear BK465; clear BK466; clear BK479; clear HB; have HO_12 := n0_; have HO493 := n1_; have BK465 := n2_; have BK466 := n3_; have BK479 := n4_; have HB := n5_; clear n0_ n1_ n2_ n3_ n4_ n5_; clear hb ho50))
                        go_ret3
                        exact ⟨_, by first | rfl | (simp [errW_none, errW_some] <;> rfl) | (simp [*, errW_none, errW_some] <;> rfl), by (with_reducible repeat (first | apply Kd.R_alloc | apply Kd.R_drewN | apply Kd.R_drew)); exact Kd.R_mono HO493.out (fun _ hk => trivial), by repeat (first | (with_reducible first | exact HB.out | apply below_alloc | apply pw_below_drewN | apply below_drew1 | refine below_set ?_ GE465.out | refine below_set ?_ GE466.out | refine below_set ?_ GE479.out) | exact HB.out)⟩
          · rw [if_neg c16] at H
            exact absurd H (by simp)
        · rw [if_neg c15] at H
          have c15b0 : decide (x14_1 < (l2.length : Int)) = false := decide_eq_false c15
          clear c15
          simp only [Option.some.injEq, Prod.mk.injEq] at H
          obtain ⟨rfl, rfl, rfl⟩ := H
          go_wp2
          go_ret3
          exact ⟨_, by first | rfl | (simp [errW_none, errW_some] <;> rfl) | (simp [*, errW_none, errW_some] <;> rfl), by (with_reducible repeat (first | apply Kd.R_alloc | apply Kd.R_drewN | apply Kd.R_drew)); exact HO_12.out, by repeat (first | (with_reducible first | exact HB.out | apply below_alloc | apply pw_below_drewN | apply below_drew1 | refine below_set ?_ GE465.out | refine below_set ?_ GE466.out) | exact HB.out)⟩
  · rw [if_neg c6] at H
    have c6b0 : (t467 == 0) = false := beq_eq_false_iff_ne.mpr c6
    have c6b1 : (t467 != 0) = true := bne_iff_ne.mpr c6
    obtain ⟨y468, hy468⟩ : ∃ y_ : List Int, y_ = (([] : List Int)) := ⟨_, rfl⟩
    replace H : (some (y468, 0, t467)) = some (r1, r2, r3) := by first | (rw [hy468]; with_reducible exact H) | (have H2_ := (Option.bind_some _ _).symm.trans H; rw [hy468]; with_reducible exact H2_) | (have H2_ := (Option.bind_some _ _).symm.trans H; with_reducible exact H2_) | with_reducible exact H | (rw [hy468]; exact H) | exact H
    have Ny468 := Aside0.mk hy468
    clear hy468
    simp only [Option.some.injEq, Prod.mk.injEq] at H
    obtain ⟨rfl, rfl, rfl⟩ := H
    go_enter Try.func43, Try.ntmps43
    go_wp2_with (first | ((with_reducible refine gate_dst (N := 4) rfl ?_); refine box_event ?hg (N := 4) ?hd (cs := #[.int .i64 a0_0, .int .i64 a0_1, .int .i8 a0_2, .int .i8 a0_3]) (t := 43) ?hr ?_; (case hd => rfl); (case hg => rfl); (case hr => first | (go_simp; done) | (go_simp; rfl)); intro gb465 hg w51 hbox hb; have n0_ := Aside0.mk (below_step HB.out hb); have n1_ := Aside0.mk (hbox); have n2_ := Aside0.mk ((by rw [hg]; exact (below_size HB.out) : w.heap.size ≤ gb465)); have n3_ := Aside0.mk ((by rw [hg]; exact (below_size HB.out) : w.heap.size ≤ gb465)); clear HB; have HB := n0_; have BK465 := n1_; have GW465 := n2_; have GE465 := n3_; clear n0_ n1_ n2_ n3_; clear hb hbox hg) | ((with_reducible refine gate_dst (N := 5) rfl ?_); refine box_event ?hg (N := 5) ?hd (cs := #[.int .i64 a1_0, .int .i64 a1_1, .int .i64 a1_2]) (t := 45) ?hr ?_; (case hd => rfl); (case hg => rfl); (case hr => first | (go_simp; done) | (go_simp; rfl)); intro gb466 hg w52 hbox hb; have n0_ := Aside0.mk (blk_below BK465.out hb); have n1_ := Aside0.mk (below_step HB.out hb); have n2_ := Aside0.mk (hbox); have n3_ := Aside0.mk ((by rw [hg]; exact (below_size HB.out) : w.heap.size ≤ gb466)); have n4_ := Aside0.mk ((by rw [hg]; exact (below_size HB.out) : w.heap.size ≤ gb466)); have n5_ := Aside0.mk ((by rw [hg]; exact Nat.ne_of_lt (blk_lt BK465.out) : gb465 ≠ gb466)); have n6_ := Aside0.mk ((by rw [hg]; exact Nat.ne_of_gt (blk_lt BK465.out) : gb466 ≠ gb465)); clear BK465; clear HB; have BK465 := n0_; have HB := n1_; have BK466 := n2_; have GW466 := n3_; have GE466 := n4_; have NB465_466 := n5_; have NB466_465 := n6_; clear n0_ n1_ n2_ n3_ n4_ n5_ n6_; clear hb hbox hg; have hnb53 := NB465_466.out; have hnc53 := NB466_465.out; have hcz54_0 := blk_c BK465.out 0 rfl; have hcz54_1 := blk_c BK465.out 1 rfl; have hcz54_2 := blk_c BK465.out 2 rfl; have hcz54_3 := blk_c BK465.out 3 rfl; have hfz54_0 := blk_frozen BK465.out 0; have hfz54_1 := blk_frozen BK465.out 1; have hfz54_2 := blk_frozen BK465.out 2; have hfz54_3 := blk_frozen BK465.out 3; have hcz55_0 := blk_c BK466.out 0 rfl; have hcz55_1 := blk_c BK466.out 1 rfl; have hcz55_2 := blk_c BK466.out 2 rfl; have hfz55_0 := blk_frozen BK466.out 0; have hfz55_1 := blk_frozen BK466.out 1; have hfz55_2 := blk_frozen BK466.out 2) | ((with_reducible refine gate_callee (f := 78) rfl ?_); refine goesL_ (some 22) rfl rfl Try.func78 (by kernel_rfl) rfl #[.agg #[.int .i64 a0_0, .int .i64 a0_1, .int .i8 a0_2, .int .i8 a0_3], .agg #[.int .i64 a1_0, .int .i64 a1_1, .int .i64 a1_2], .slice A2 l2.length c2, .int .i64 a3] rfl (by (try simp only [List.map_toArray, List.map_cons, List.map_nil]); first | done | rfl | (simp only [List.length_drop, List.length_take]; rfl)) ?_; (with_reducible refine (spec_l04Areas.calls k a0_0 a0_1 a0_2 a0_3 a1_0 a1_1 a1_2 _ _ l2 a3 t467 _ ?side1 ?side2 A5.out).mono ?_); (case side1 => repeat (first | exact (Kd.C_below HR2.out HB.out) | (with_reducible refine Kd.C_alloc ?_ _) | (with_reducible refine Kd.C_drewN ?_ _) | (with_reducible refine Kd.C_drew ?_))); (case side2 => exact HC2.out); rintro e w56 ⟨rfl, hb⟩; refine ⟨_, rfl, ?_⟩; have n0_ := Aside0.mk (blk_below BK465.out hb); have n1_ := Aside0.mk (blk_below BK466.out hb); have n2_ := Aside0.mk (below_step HB.out hb); clear BK465; clear BK466; clear HB; have BK465 := n0_; have BK466 := n1_; have HB := n2_; clear n0_ n1_ n2_; (try clear hb); (try clear hb2); (try clear hk); (try clear hi)) | ((with_reducible refine gate_dst (N := 25) rfl ?_); refine Kd.R_lit (Kd.int .i64) _ 2 ?hg (N := 25) ?hd (xs := ([] : List Int)) (inner := []) (ok := fun _ => True) (okp := fun _ => True) ?hr ?hp (fun _ hk => hk) trivial (Below.refl _ _) (Nat.le_refl _) (by simp) ?_; (case hd => rfl); (case hg => rfl); (case hr => first | (go_simp; done) | (go_simp; rfl)); (case hp => exact (Reps.none _ _)); intro v469 w57 ho58 hb hg_ hnew_; clear hg_ hnew_; (first | rw [← Ny468.out] at ho58 | (simp only [Int.reduceToNat] at ho58; rw [← Ny468.out] at ho58)); have n0_ := Aside0.mk (Kd.R_lower ho58 (below_size HB.out)); have n1_ := Aside0.mk (blk_below BK465.out hb); have n2_ := Aside0.mk (blk_below BK466.out hb); have n3_ := Aside0.mk (below_step HB.out hb); clear BK465; clear BK466; clear HB; have HO470 := n0_; have BK465 := n1_; have BK466 := n2_; have HB := n3_; clear n0_ n1_ n2_ n3_; clear hb ho58))
    go_ret3
    exact ⟨_, by first | rfl | (simp [errW_none, errW_some] <;> rfl) | (simp [*, errW_none, errW_some] <;> rfl), by (with_reducible repeat (first | apply Kd.R_alloc | apply Kd.R_drewN | apply Kd.R_drew)); exact HO470.out, by repeat (first | (with_reducible first | exact HB.out | apply below_alloc | apply pw_below_drewN | apply below_drew1 | refine below_set ?_ GE465.out | refine below_set ?_ GE466.out) | exact HB.out)⟩

end Go.Proofs.Ytldhgldknefjdaa.Q
