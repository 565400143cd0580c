-- Written by wip/mk.py of this repository (a run of the kit's print with hand-proved leaves added); Lean checks it.
import Derived.Test.YtiehbagnebjadaaGreatDoorQx0
import Derived.Test.YtiehbagnebjadaaGreatDoorQx2
import Derived.Test.YtiehbagnebjadaaGreatDoorQx6
import Derived.Test.YtiehbagnebjadaaGreatDoorQx7
namespace Go.Proofs.YtiehbagnebjadaaGreatDoor.Q
open Go.RowKit Go.Proofs.YtiehbagnebjadaaGreatDoorW.PrintWords Go.Proofs.YtiehbagnebjadaaGreatDoorW.PrintLast Go.Proofs.YtiehbagnebjadaaGreatDoorW.PrintMore
attribute [local go_sem] max2_int min2_int max_two min_two max_three min_three max_four min_four   -- for this text's walks alone
set_option linter.unusedVariables false
set_option linter.unusedSimpArgs false

/-! ### spec_RestBath: function 191 -/
def spec_RestBath.f (p : Int) (k : Int) (c : Int) (d : Int) (v : Int) (u : Int) (g : Int) (a2 : Int) : Option (Int × Int × Int × Int) := (spec_l04Ok.f p k c d v u g).bind fun t1 => if t1 = true then ((spec_l00In.f a2 0 100000).bind fun t2 => if t2 = true then ((spec_l04Ok.f p k c d v u (wrap64 (g + a2))).bind fun t3 => if t3 = true then some (v, u, wrap64 (g + a2), 0) else some (0, 0, 0, 4)) else some (0, 0, 0, 2)) else some (0, 0, 0, 1)
set_option maxHeartbeats 8000000 in
set_option maxRecDepth 100000 in
theorem spec_RestBath.calls (p : Int) (k : Int) (c : Int) (d : Int) (v : Int) (u : Int) (g : Int) (a2 : Int) (r1 : Int) (r2 : Int) (r3 : Int) (r4 : Int) (w : World) (h : spec_RestBath.f p k c d v u g a2 = some (r1, r2, r3, r4)) :
  Calls Tryz.prog 191 #[.agg #[.int .i64 p, .int .i64 k, .int .i8 c, .int .i8 d], .agg #[.int .i64 v, .int .i64 u, .int .i64 g], .int .i64 a2] w fun e w' => e = .returned (.tuple #[.agg #[.int .i64 r1, .int .i64 r2, .int .i64 r3], .int .i64 r4]) ∧ Below w.heap.size w w' := by
 have H' := Aside0.mk (show spec_RestBath.f p k c d v u g a2 = some (r1, r2, r3, r4) from h)
 clear h
 have HD := Aside0.mk (show HBx (((w.alloc (.cells ([.int .i64 p, .int .i64 k, .int .i8 c, .int .i8 d] : List Value).toArray 45)).alloc (.cells ([.int .i64 v, .int .i64 u, .int .i64 g] : List Value).toArray 47)).alloc (.cells ([.int .i64 0, .int .i64 0, .int .i64 0] : List Value).toArray 47)) w.heap.size 45 [.int .i64 p, .int .i64 k, .int .i8 c, .int .i8 d] from alloc3_0 _ _ _ _)
 have HB := Aside0.mk (show HBx (((w.alloc (.cells ([.int .i64 p, .int .i64 k, .int .i8 c, .int .i8 d] : List Value).toArray 45)).alloc (.cells ([.int .i64 v, .int .i64 u, .int .i64 g] : List Value).toArray 47)).alloc (.cells ([.int .i64 0, .int .i64 0, .int .i64 0] : List Value).toArray 47)) (w.heap.size + 1) 47 [.int .i64 v, .int .i64 u, .int .i64 g] from alloc3_1 _ _ _ _)
 have HR := Aside0.mk (show HBx (((w.alloc (.cells ([.int .i64 p, .int .i64 k, .int .i8 c, .int .i8 d] : List Value).toArray 45)).alloc (.cells ([.int .i64 v, .int .i64 u, .int .i64 g] : List Value).toArray 47)).alloc (.cells ([.int .i64 0, .int .i64 0, .int .i64 0] : List Value).toArray 47)) (w.heap.size + 2) 47 [.int .i64 0, .int .i64 0, .int .i64 0] from alloc3_2 _ _ _ _)
 have HL := Aside0.mk (alloc3_below w (.cells ([.int .i64 p, .int .i64 k, .int .i8 c, .int .i8 d] : List Value).toArray 45) (.cells ([.int .i64 v, .int .i64 u, .int .i64 g] : List Value).toArray 47) (.cells ([.int .i64 0, .int .i64 0, .int .i64 0] : List Value).toArray 47))
 have H := H'.out
 clear H'
 unfold spec_RestBath.f at H
 go_enter Tryz.func191, Tryz.ntmps191
 obtain ⟨t1, e1, H⟩ := Option.bind_eq_some_iff.mp H
 have E1 := Aside0.mk e1
 clear e1
 have H' := Aside0.mk H
 clear H
 go_wp2_with (first | (refine hx_load rfl 45 _ rfl w.heap.size rfl 45 [.int .i64 p, .int .i64 k, .int .i8 c, .int .i8 d] HD.out _ Tryz.underlying45 rfl (by kernel_rfl) ?_) | (refine hx_load rfl 47 _ rfl (w.heap.size + 1) rfl 47 [.int .i64 v, .int .i64 u, .int .i64 g] HB.out _ Tryz.underlying47 rfl (by kernel_rfl) ?_))
 refine (spec_l04Ok.calls p k c d v u g t1 _ E1.out).mono ?_
 rintro e w1 ⟨rfl, hb⟩
 have HD1 := Aside0.mk (HD.out.below hb)
 have HB1 := Aside0.mk (HB.out.below hb)
 have HR1 := Aside0.mk (HR.out.below hb)
 have HL1 := Aside0.mk (below_step HL.out hb)
 clear hb HD HB HR HL
 have H := H'.out
 clear H'
 cases t1 with
 | false =>
  simp only [Bool.false_eq_true, if_false, Option.some.injEq, Prod.mk.injEq] at H
  obtain ⟨rfl, rfl, rfl, rfl⟩ := H
  go_wp2_with (first | (refine hx_store rfl 47 _ _ rfl (w.heap.size + 2) [.int .i64 0, .int .i64 0, .int .i64 0] rfl rfl 47 [.int .i64 0, .int .i64 0, .int .i64 0] HR1.out (by kernel_rfl) rfl (by rfl) ?_) | (refine hx_load rfl 45 _ rfl w.heap.size rfl 45 [.int .i64 p, .int .i64 k, .int .i8 c, .int .i8 d] HD1.out _ Tryz.underlying45 rfl (by kernel_rfl) ?_) | (refine hx_load rfl 47 _ rfl (w.heap.size + 1) rfl 47 [.int .i64 v, .int .i64 u, .int .i64 g] HB1.out _ Tryz.underlying47 rfl (by kernel_rfl) ?_))
  refine bodyPost_ret (results_ct rfl _ _ (w.heap.size + 2) 47 ([.int .i64 0, .int .i64 0, .int .i64 0] : List Value).toArray (0, 0) _ rfl (HR1.out.row [.int .i64 0, .int .i64 0, .int .i64 0]) Tryz.underlying47 rfl (by kernel_rfl)) rfl ?_
  exact ⟨rfl, hx_below HL1.out (by omega) _⟩
 | true =>
  rw [if_pos rfl] at H
  obtain ⟨t2, e2, H⟩ := Option.bind_eq_some_iff.mp H
  have E2 := Aside0.mk e2
  clear e2
  have H' := Aside0.mk H
  clear H
  go_wp2_with (first | (refine hx_load rfl 45 _ rfl w.heap.size rfl 45 [.int .i64 p, .int .i64 k, .int .i8 c, .int .i8 d] HD1.out _ Tryz.underlying45 rfl (by kernel_rfl) ?_) | (refine hx_load rfl 47 _ rfl (w.heap.size + 1) rfl 47 [.int .i64 v, .int .i64 u, .int .i64 g] HB1.out _ Tryz.underlying47 rfl (by kernel_rfl) ?_))
  refine (spec_l00In.calls a2 0 100000 t2 _ E2.out).mono ?_
  rintro e w2 ⟨rfl, hb⟩
  replace hb := hb.below
  have HD2 := Aside0.mk (HD1.out.below hb)
  have HB2 := Aside0.mk (HB1.out.below hb)
  have HR2 := Aside0.mk (HR1.out.below hb)
  have HL2 := Aside0.mk (below_step HL1.out hb)
  clear hb HD1 HB1 HR1 HL1
  have H := H'.out
  clear H'
  cases t2 with
  | false =>
   simp only [Bool.false_eq_true, if_false, Option.some.injEq, Prod.mk.injEq] at H
   obtain ⟨rfl, rfl, rfl, rfl⟩ := H
   go_wp2_with (first | (refine hx_store rfl 47 _ _ rfl (w.heap.size + 2) [.int .i64 0, .int .i64 0, .int .i64 0] rfl rfl 47 [.int .i64 0, .int .i64 0, .int .i64 0] HR2.out (by kernel_rfl) rfl (by rfl) ?_) | (refine hx_load rfl 45 _ rfl w.heap.size rfl 45 [.int .i64 p, .int .i64 k, .int .i8 c, .int .i8 d] HD2.out _ Tryz.underlying45 rfl (by kernel_rfl) ?_) | (refine hx_load rfl 47 _ rfl (w.heap.size + 1) rfl 47 [.int .i64 v, .int .i64 u, .int .i64 g] HB2.out _ Tryz.underlying47 rfl (by kernel_rfl) ?_))
   refine bodyPost_ret (results_ct rfl _ _ (w.heap.size + 2) 47 ([.int .i64 0, .int .i64 0, .int .i64 0] : List Value).toArray (0, 0) _ rfl (HR2.out.row [.int .i64 0, .int .i64 0, .int .i64 0]) Tryz.underlying47 rfl (by kernel_rfl)) rfl ?_
   exact ⟨rfl, hx_below HL2.out (by omega) _⟩
  | true =>
   rw [if_pos rfl] at H
   have hc := HB2.out.cell 2 (v := .int .i64 g) rfl
   have hf := HB2.out.frozen 2
   have HDs := Aside0.mk (HD2.out.setOther (c := w.heap.size + 1) (by omega) 2 (.int .i64 (wrap64 (g + a2))))
   have HRs := Aside0.mk (HR2.out.setOther (c := w.heap.size + 1) (by omega) 2 (.int .i64 (wrap64 (g + a2))))
   have HBs := Aside0.mk (show HBx _ (w.heap.size + 1) 47 [.int .i64 v, .int .i64 u, .int .i64 (wrap64 (g + a2))] from HB2.out.set 2 (.int .i64 (wrap64 (g + a2))))
   have HLs := Aside0.mk (below_set (g := w.heap.size + 1) (j := 2) (v := .int .i64 (wrap64 (g + a2))) HL2.out (by omega))
   clear HD2 HB2 HR2 HL2
   obtain ⟨t3, e3, H⟩ := Option.bind_eq_some_iff.mp H
   have E3 := Aside0.mk e3
   clear e3
   have H' := Aside0.mk H
   clear H
   go_wp2_with (first | (refine hx_load rfl 45 _ rfl w.heap.size rfl 45 [.int .i64 p, .int .i64 k, .int .i8 c, .int .i8 d] HDs.out _ Tryz.underlying45 rfl (by kernel_rfl) ?_) | (refine hx_load rfl 47 _ rfl (w.heap.size + 1) rfl 47 [.int .i64 v, .int .i64 u, .int .i64 (wrap64 (g + a2))] HBs.out _ Tryz.underlying47 rfl (by kernel_rfl) ?_))
   refine (spec_l04Ok.calls p k c d v u (wrap64 (g + a2)) t3 _ E3.out).mono ?_
   rintro e w3 ⟨rfl, hb⟩
   have HD3 := Aside0.mk (HDs.out.below hb)
   have HB3 := Aside0.mk (HBs.out.below hb)
   have HR3 := Aside0.mk (HRs.out.below hb)
   have HL3 := Aside0.mk (below_step HLs.out hb)
   clear hb HDs HBs HRs HLs
   have H := H'.out
   clear H'
   cases t3 with
   | false =>
    simp only [Bool.false_eq_true, if_false, Option.some.injEq, Prod.mk.injEq] at H
    obtain ⟨rfl, rfl, rfl, rfl⟩ := H
    go_wp2_with (first | (refine hx_store rfl 47 _ _ rfl (w.heap.size + 2) [.int .i64 0, .int .i64 0, .int .i64 0] rfl rfl 47 [.int .i64 0, .int .i64 0, .int .i64 0] HR3.out (by kernel_rfl) rfl (by rfl) ?_) | (refine hx_load rfl 45 _ rfl w.heap.size rfl 45 [.int .i64 p, .int .i64 k, .int .i8 c, .int .i8 d] HD3.out _ Tryz.underlying45 rfl (by kernel_rfl) ?_) | (refine hx_load rfl 47 _ rfl (w.heap.size + 1) rfl 47 [.int .i64 v, .int .i64 u, .int .i64 (wrap64 (g + a2))] HB3.out _ Tryz.underlying47 rfl (by kernel_rfl) ?_))
    refine bodyPost_ret (results_ct rfl _ _ (w.heap.size + 2) 47 ([.int .i64 0, .int .i64 0, .int .i64 0] : List Value).toArray (0, 0) _ rfl (HR3.out.row [.int .i64 0, .int .i64 0, .int .i64 0]) Tryz.underlying47 rfl (by kernel_rfl)) rfl ?_
    exact ⟨rfl, hx_below HL3.out (by omega) _⟩
   | true =>
    rw [if_pos rfl] at H
    simp only [Option.some.injEq, Prod.mk.injEq] at H
    obtain ⟨rfl, rfl, rfl, rfl⟩ := H
    go_wp2_with (first | (refine hx_store rfl 47 _ _ rfl (w.heap.size + 2) [.int .i64 v, .int .i64 u, .int .i64 (wrap64 (g + a2))] rfl rfl 47 [.int .i64 0, .int .i64 0, .int .i64 0] HR3.out (by kernel_rfl) rfl (by rfl) ?_) | (refine hx_load rfl 45 _ rfl w.heap.size rfl 45 [.int .i64 p, .int .i64 k, .int .i8 c, .int .i8 d] HD3.out _ Tryz.underlying45 rfl (by kernel_rfl) ?_) | (refine hx_load rfl 47 _ rfl (w.heap.size + 1) rfl 47 [.int .i64 v, .int .i64 u, .int .i64 (wrap64 (g + a2))] HB3.out _ Tryz.underlying47 rfl (by kernel_rfl) ?_))
    refine bodyPost_ret (results_ct rfl _ _ (w.heap.size + 2) 47 ([.int .i64 v, .int .i64 u, .int .i64 (wrap64 (g + a2))] : List Value).toArray (0, 0) _ rfl (HR3.out.row [.int .i64 v, .int .i64 u, .int .i64 (wrap64 (g + a2))]) Tryz.underlying47 rfl (by kernel_rfl)) rfl ?_
    exact ⟨rfl, hx_below HL3.out (by omega) _⟩


/-! ### spec_l04Fill: function 219 -/
def spec_l04Fill.f (a0_0 : Int) (a0_1 : Int) (a0_2 : Int) (a1 : Int) : Option (Int × Int × Int) := if a0_0 = 0 then (none) else (some (a0_0, wrap64 (Int.tdiv (wrap64 (a0_1 * (wrap64 (a0_0 - a1)))) a0_0), wrap64 (Int.tdiv (wrap64 (a0_2 * (wrap64 (a0_0 - a1)))) a0_0)))
def spec_l04Fill.T2 : Bool × List (List Nat × List Nat) := (true, [([], []), ([0], [0]), ([], []), ([2], [2]), ([], []), ([3, 4], [3, 4]), ([], []), ([6], [6]), ([5, 7], [5, 7]), ([], []), ([9], [9]), ([], []), ([10, 11], [10, 11]), ([], []), ([13], [13]), ([12, 14], [12, 14]), ([1, 8, 15], [1, 8, 15]), ([16, 0, 1, 2, 3, 4, 5, 6, 7, 8, 9, 10, 11, 12, 13, 14, 15, 16], [16])])
def spec_l04Fill.B2 : List Nat := [0, 1, 0, 4, 0, 28, 0, 64, 252, 0, 512, 0, 3584, 0, 8192, 32256, 65535, 131071]
theorem spec_l04Fill.tab2 : rtab .any (opsOf Tryz.f219 2) = spec_l04Fill.T2 := by kernel_rfl
theorem spec_l04Fill.bits2 : waitsOk spec_l04Fill.T2.2 spec_l04Fill.B2 = true := by kernel_rfl
set_option maxHeartbeats 8000000 in
set_option maxRecDepth 100000 in
theorem spec_l04Fill.calls (a0_0 : Int) (a0_1 : Int) (a0_2 : Int) (a1 : Int) (r1 : Int) (r2 : Int) (r3 : Int) (w : World) (h : spec_l04Fill.f a0_0 a0_1 a0_2 a1 = some (r1, r2, r3)) :
  Calls Tryz.prog 219 #[.agg #[.int .i64 a0_0, .int .i64 a0_1, .int .i64 a0_2], .int .i64 a1] w fun e w' => e = .returned (.agg #[.int .i64 r1, .int .i64 r2, .int .i64 r3]) ∧ Below w.heap.size w w' := by
 have hu47 := Tryz.underlying47
 have HB := Aside0.mk (Below.refl w.heap.size w)
 have H : (if a0_0 = 0 then (none) else (some (a0_0, wrap64 (Int.tdiv (wrap64 (a0_1 * (wrap64 (a0_0 - a1)))) a0_0), wrap64 (Int.tdiv (wrap64 (a0_2 * (wrap64 (a0_0 - a1)))) a0_0)))) = some (r1, r2, r3) := h
 clear h
 by_cases c3 : a0_0 = 0
 ·rw [if_pos c3] at H
  exact absurd H (by simp)
 ·rw [if_neg c3] at H
  have c3b0 : (a0_0 == 0) = false := beq_eq_false_iff_ne.mpr c3
  have c3b1 : (a0_0 != 0) = true := bne_iff_ne.mpr c3
  simp only [Option.some.injEq, Prod.mk.injEq] at H
  obtain ⟨rfl, rfl, rfl⟩ := H
  go_enter Tryz.func219, Tryz.ntmps219
  try go_wp2_with (first | ((with_reducible refine gate_dst (N := 2) rfl ?_); refine box_event ?hg (N := 2) ?hd (cs := #[.int .i64 a0_0, .int .i64 a0_1, .int .i64 a0_2]) (t := 47) ?hr ?_; (case hd => rfl); (case hg => rfl); (case hr => first | (go_simp; done) | (go_simp; rfl)); intro gb329 hg w4 hbox hb; have n0_ := Aside0.mk (below_step HB.out hb); have n1_ := Aside0.mk (hbox); have n2_ := Aside0.mk ((by rw [hg]; exact (below_size HB.out) : w.heap.size ≤ gb329)); have n3_ := Aside0.mk ((by rw [hg]; exact (below_size HB.out) : w.heap.size ≤ gb329)); clear HB; have HB := n0_; have BK329 := n1_; have GW329 := n2_; have GE329 := n3_; clear n0_ n1_ n2_ n3_; clear hb hbox hg) | ((with_reducible refine gate_dst (N := 4) rfl ?_); refine box_event ?hg (N := 4) ?hd (cs := #[.int .i64 0, .int .i64 0, .int .i64 0]) (t := 47) ?hr ?_; (case hd => rfl); (case hg => rfl); (case hr => first | (go_simp; done) | (go_simp; rfl)); intro gb330 hg w5 hbox hb; have n0_ := Aside0.mk (blk_below BK329.out hb); have n1_ := Aside0.mk (below_step HB.out hb); have n2_ := Aside0.mk (hbox); have n3_ := Aside0.mk ((by rw [hg]; exact (below_size HB.out) : w.heap.size ≤ gb330)); have n4_ := Aside0.mk ((by rw [hg]; exact (below_size HB.out) : w.heap.size ≤ gb330)); have n5_ := Aside0.mk ((by rw [hg]; exact Nat.ne_of_lt (blk_lt BK329.out) : gb329 ≠ gb330)); have n6_ := Aside0.mk ((by rw [hg]; exact Nat.ne_of_gt (blk_lt BK329.out) : gb330 ≠ gb329)); clear BK329; clear HB; have BK329 := n0_; have HB := n1_; have BK330 := n2_; have GW330 := n3_; have GE330 := n4_; have NB329_330 := n5_; have NB330_329 := n6_; clear n0_ n1_ n2_ n3_ n4_ n5_ n6_; clear hb hbox hg; have hnb6 := NB329_330.out; have hnc6 := NB330_329.out; have hcz7_0 := blk_c BK329.out 0 rfl; have hcz7_1 := blk_c BK329.out 1 rfl; have hcz7_2 := blk_c BK329.out 2 rfl; have hfz7_0 := blk_frozen BK329.out 0; have hfz7_1 := blk_frozen BK329.out 1; have hfz7_2 := blk_frozen BK329.out 2))
  have n0_ := Aside0.mk (blk_drew BK329.out)
  have n1_ := Aside0.mk (blk_drew BK330.out)
  have n2_ := Aside0.mk (below_drew1 HB.out)
  clear BK329
  clear BK330
  clear HB
  have BK329 := n0_
  have BK330 := n1_
  have HB := n2_
  clear n0_ n1_ n2_
  refine start_ (n := 18) (S := fun w' => w'.cell? ⟨gb329, 0, none⟩ = some (.int .i64 a0_0) ∧ w'.cell? ⟨gb329, 1, none⟩ = some (.int .i64 a0_1) ∧ w'.cell? ⟨gb329, 2, none⟩ = some (.int .i64 a0_2)) (ds := []) #[false, false, false, false, false, false, false, false, false, false, false, false, false, false, false, false, false, false] (by kernel_rfl) rfl rfl ⟨(blk_cell BK329.out 0).trans rfl, (blk_cell BK329.out 1).trans rfl, (blk_cell BK329.out 2).trans rfl⟩ (fun hHeld => ?_); refine with_tabW spec_l04Fill.tab2 spec_l04Fill.bits2 (fun HT_ HW_ => ?_)
  generalize w5.drew = w8 at BK329 BK330 HB hHeld ⊢
  refine pure_ (i := 0) (N := some 10) (v := ?_) (a' := ?_) #[true, false, false, false, false, false, false, false, false, false, false, false, false, false, false, false, false, false] rfl rfl (any_of HT_.out (by kernel_rfl)) (fun _ _ _ h => h) (Or.inl ⟨by rfl, ?_⟩) ?_ ?_
  rotate_left
  ·intro w'
   go_simp
   with_reducible rfl
  rotate_left
  ·simp only [Act.put, List.setIfInBounds_toArray, List.set_cons_zero, List.set_cons_succ, i64_w, i32_w]
   rfl
  refine pure_ (i := 2) (N := some 12) (v := ?_) (a' := ?_) #[true, false, true, false, false, false, false, false, false, false, false, false, false, false, false, false, false, false] rfl rfl (any_of HT_.out (by kernel_rfl)) (fun _ _ _ h => h) (Or.inl ⟨by rfl, ?_⟩) ?_ ?_
  rotate_left
  ·intro w'
   go_simp
   with_reducible rfl
  rotate_left
  ·simp only [Act.put, List.setIfInBounds_toArray, List.set_cons_zero, List.set_cons_succ, i64_w, i32_w]
   rfl
  refine pure_ (i := 4) (N := some 14) (v := ?_) (a' := ?_) #[true, false, true, false, true, false, false, false, false, false, false, false, false, false, false, false, false, false] rfl rfl (any_of HT_.out (by kernel_rfl)) (fun _ _ _ h => h) (Or.inl ⟨by rfl, ?_⟩) ?_ ?_
  rotate_left
  ·intro w'
   go_simp
   with_reducible rfl
  rotate_left
  ·simp only [Act.put, List.setIfInBounds_toArray, List.set_cons_zero, List.set_cons_succ, i64_w, i32_w]
   rfl
  refine pure_ (i := 6) (N := some 16) (v := ?_) (a' := ?_) #[true, false, true, false, true, false, true, false, false, false, false, false, false, false, false, false, false, false] rfl rfl (any_of HT_.out (by kernel_rfl)) (fun _ _ _ h => h) (Or.inl ⟨by rfl, ?_⟩) ?_ ?_
  rotate_left
  ·intro w'
   go_simp
   with_reducible rfl
  rotate_left
  ·simp only [Act.put, List.setIfInBounds_toArray, List.set_cons_zero, List.set_cons_succ, i64_w, i32_w]
   rfl
  refine pure_ (i := 9) (N := some 19) (v := ?_) (a' := ?_) #[true, false, true, false, true, false, true, false, false, true, false, false, false, false, false, false, false, false] rfl rfl (any_of HT_.out (by kernel_rfl)) (fun _ _ _ h => h) (Or.inl ⟨by rfl, ?_⟩) ?_ ?_
  rotate_left
  ·intro w'
   go_simp
   with_reducible rfl
  rotate_left
  ·simp only [Act.put, List.setIfInBounds_toArray, List.set_cons_zero, List.set_cons_succ, i64_w, i32_w]
   rfl
  refine pure_ (i := 11) (N := some 21) (v := ?_) (a' := ?_) #[true, false, true, false, true, false, true, false, false, true, false, true, false, false, false, false, false, false] rfl rfl (any_of HT_.out (by kernel_rfl)) (fun _ _ _ h => h) (Or.inl ⟨by rfl, ?_⟩) ?_ ?_
  rotate_left
  ·intro w'
   go_simp
   with_reducible rfl
  rotate_left
  ·simp only [Act.put, List.setIfInBounds_toArray, List.set_cons_zero, List.set_cons_succ, i64_w, i32_w]
   rfl
  refine pure_ (i := 13) (N := some 23) (v := ?_) (a' := ?_) #[true, false, true, false, true, false, true, false, false, true, false, true, false, true, false, false, false, false] rfl rfl (any_of HT_.out (by kernel_rfl)) (fun _ _ _ h => h) (Or.inl ⟨by rfl, ?_⟩) ?_ ?_
  rotate_left
  ·intro w'
   go_simp
   with_reducible rfl
  rotate_left
  ·simp only [Act.put, List.setIfInBounds_toArray, List.set_cons_zero, List.set_cons_succ, i64_w, i32_w]
   rfl
  refine take_ (i := 1) (N := some 11) (v := ?_) (a' := ?_) #[true, true, true, false, true, false, true, false, false, true, false, true, false, true, false, false, false, false] rfl rfl (take_ofW HT_.out HW_.out (by kernel_rfl)) (fun _ _ _ h => h) (Or.inl ⟨by rfl, ?_⟩) hHeld ?_ ?_
  rotate_left
  ·rintro w' ⟨s0, s1, s2⟩
   go_simp
   with_reducible rfl
  rotate_left
  ·simp only [Act.put, List.setIfInBounds_toArray, List.set_cons_zero, List.set_cons_succ, i64_w, i32_w]
   rfl
  refine take_ (i := 3) (N := some 13) (v := ?_) (a' := ?_) #[true, true, true, true, true, false, true, false, false, true, false, true, false, true, false, false, false, false] rfl rfl (take_ofW HT_.out HW_.out (by kernel_rfl)) (fun _ _ _ h => h) (Or.inl ⟨by rfl, ?_⟩) hHeld ?_ ?_
  rotate_left
  ·rintro w' ⟨s0, s1, s2⟩
   go_simp
   with_reducible rfl
  rotate_left
  ·simp only [Act.put, List.setIfInBounds_toArray, List.set_cons_zero, List.set_cons_succ, i64_w, i32_w]
   rfl
  refine pure_ (i := 5) (N := some 15) (v := ?_) (a' := ?_) #[true, true, true, true, true, true, true, false, false, true, false, true, false, true, false, false, false, false] rfl rfl (any_of HT_.out (by kernel_rfl)) (fun _ _ _ h => h) (Or.inl ⟨by rfl, ?_⟩) ?_ ?_
  rotate_left
  ·intro w'
   go_simp
   with_reducible rfl
  rotate_left
  ·simp only [Act.put, List.setIfInBounds_toArray, List.set_cons_zero, List.set_cons_succ, i64_w, i32_w]
   rfl
  refine take_ (i := 7) (N := some 17) (v := ?_) (a' := ?_) #[true, true, true, true, true, true, true, true, false, true, false, true, false, true, false, false, false, false] rfl rfl (take_ofW HT_.out HW_.out (by kernel_rfl)) (fun _ _ _ h => h) (Or.inl ⟨by rfl, ?_⟩) hHeld ?_ ?_
  rotate_left
  ·rintro w' ⟨s0, s1, s2⟩
   go_simp
   with_reducible rfl
  rotate_left
  ·simp only [Act.put, List.setIfInBounds_toArray, List.set_cons_zero, List.set_cons_succ, i64_w, i32_w]
   rfl
  refine pure_ (i := 8) (N := some 18) (v := ?_) (a' := ?_) #[true, true, true, true, true, true, true, true, true, true, false, true, false, true, false, false, false, false] rfl rfl (any_of HT_.out (by kernel_rfl)) (fun _ _ _ h => h) (Or.inl ⟨by rfl, ?_⟩) ?_ ?_
  rotate_left
  ·intro w'
   go_simp
   with_reducible rfl
  rotate_left
  ·simp only [Act.put, List.setIfInBounds_toArray, List.set_cons_zero, List.set_cons_succ, i64_w, i32_w]
   rfl
  refine take_ (i := 10) (N := some 20) (v := ?_) (a' := ?_) #[true, true, true, true, true, true, true, true, true, true, true, true, false, true, false, false, false, false] rfl rfl (take_ofW HT_.out HW_.out (by kernel_rfl)) (fun _ _ _ h => h) (Or.inl ⟨by rfl, ?_⟩) hHeld ?_ ?_
  rotate_left
  ·rintro w' ⟨s0, s1, s2⟩
   go_simp
   with_reducible rfl
  rotate_left
  ·simp only [Act.put, List.setIfInBounds_toArray, List.set_cons_zero, List.set_cons_succ, i64_w, i32_w]
   rfl
  refine pure_ (i := 12) (N := some 22) (v := ?_) (a' := ?_) #[true, true, true, true, true, true, true, true, true, true, true, true, true, true, false, false, false, false] rfl rfl (any_of HT_.out (by kernel_rfl)) (fun _ _ _ h => h) (Or.inl ⟨by rfl, ?_⟩) ?_ ?_
  rotate_left
  ·intro w'
   go_simp
   with_reducible rfl
  rotate_left
  ·simp only [Act.put, List.setIfInBounds_toArray, List.set_cons_zero, List.set_cons_succ, i64_w, i32_w]
   rfl
  refine take_ (i := 14) (N := some 24) (v := ?_) (a' := ?_) #[true, true, true, true, true, true, true, true, true, true, true, true, true, true, true, false, false, false] rfl rfl (take_ofW HT_.out HW_.out (by kernel_rfl)) (fun _ _ _ h => h) (Or.inl ⟨by rfl, ?_⟩) hHeld ?_ ?_
  rotate_left
  ·rintro w' ⟨s0, s1, s2⟩
   go_simp
   with_reducible rfl
  rotate_left
  ·simp only [Act.put, List.setIfInBounds_toArray, List.set_cons_zero, List.set_cons_succ, i64_w, i32_w]
   rfl
  refine pure_ (i := 15) (N := some 25) (v := ?_) (a' := ?_) #[true, true, true, true, true, true, true, true, true, true, true, true, true, true, true, true, false, false] rfl rfl (any_of HT_.out (by kernel_rfl)) (fun _ _ _ h => h) (Or.inl ⟨by rfl, ?_⟩) ?_ ?_
  rotate_left
  ·intro w'
   go_simp
   with_reducible rfl
  rotate_left
  ·simp only [Act.put, List.setIfInBounds_toArray, List.set_cons_zero, List.set_cons_succ, i64_w, i32_w]
   rfl
  refine pure_ (i := 16) (N := some 26) (v := ?_) (a' := ?_) #[true, true, true, true, true, true, true, true, true, true, true, true, true, true, true, true, true, false] rfl rfl (any_of HT_.out (by kernel_rfl)) (fun _ _ _ h => h) (Or.inl ⟨by rfl, ?_⟩) ?_ ?_
  rotate_left
  ·intro w'
   go_simp
   with_reducible rfl
  rotate_left
  ·simp only [Act.put, List.setIfInBounds_toArray, List.set_cons_zero, List.set_cons_succ, i64_w, i32_w]
   rfl
  refine one_ (i := 17) (N := none) #[true, true, true, true, true, true, true, true, true, true, true, true, true, true, true, true, true, true] rfl rfl (one_of HT_.out (by kernel_rfl)) (by decide) (fun K hK => ?_)
  have hs9 : w8.cell? ⟨gb330, 0, none⟩ = some (.int .i64 0) := (blk_cell BK330.out 0).trans rfl
  have hfs9 := blk_frozen BK330.out 0
  have hns9_0 := NB329_330.out
  have hms9_0 := NB330_329.out
  have hs10 : w8.cell? ⟨gb330, 1, none⟩ = some (.int .i64 0) := (blk_cell BK330.out 1).trans rfl
  have hfs10 := blk_frozen BK330.out 1
  have hns10_0 := NB329_330.out
  have hms10_0 := NB330_329.out
  have hs11 : w8.cell? ⟨gb330, 2, none⟩ = some (.int .i64 0) := (blk_cell BK330.out 2).trans rfl
  have hfs11 := blk_frozen BK330.out 2
  have hns11_0 := NB329_330.out
  have hms11_0 := NB330_329.out
  refine skip_ (w1 := ?_) (by rfl) rfl ?_ ?_
  rotate_left
  ·go_simp
   rfl
  refine hK.out _ _ ⟨((cell_far (p := ⟨gb330, _, none⟩) NB329_330.out _).trans (((cell_far (p := ⟨gb330, _, none⟩) NB329_330.out _).trans (((cell_far (p := ⟨gb330, _, none⟩) NB329_330.out _).trans (hHeld.1)))))), ((cell_far (p := ⟨gb330, _, none⟩) NB329_330.out _).trans (((cell_far (p := ⟨gb330, _, none⟩) NB329_330.out _).trans (((cell_far (p := ⟨gb330, _, none⟩) NB329_330.out _).trans (hHeld.2.1)))))), ((cell_far (p := ⟨gb330, _, none⟩) NB329_330.out _).trans (((cell_far (p := ⟨gb330, _, none⟩) NB329_330.out _).trans (((cell_far (p := ⟨gb330, _, none⟩) NB329_330.out _).trans (hHeld.2.2))))))⟩ (fun hHeld => ?_)
  clear hK K
  refine done_ (done_of HT_.out (by kernel_rfl)) ?_
  try go_wp2
  refine bodyPost_ret (results_cell_row rfl _ _ gb330 47 #[.int .i64 a0_0, .int .i64 (wrap64 (Int.tdiv (wrap64 (a0_1 * (wrap64 (a0_0 - a1)))) a0_0)), .int .i64 (wrap64 (Int.tdiv (wrap64 (a0_2 * (wrap64 (a0_0 - a1)))) a0_0))] (0, 0) _ rfl (by (with_reducible repeat (first | refine blk_drewN ?_ _ | refine blk_drew ?_ | refine blk_alloc ?_ _)); refine blk_put (cs := #[.int .i64 a0_0, .int .i64 (wrap64 (Int.tdiv (wrap64 (a0_1 * (wrap64 (a0_0 - a1)))) a0_0)), .int .i64 0]) ?_ 2 _ rfl; (with_reducible repeat (first | refine blk_drewN ?_ _ | refine blk_drew ?_ | refine blk_alloc ?_ _)); refine blk_put (cs := #[.int .i64 a0_0, .int .i64 0, .int .i64 0]) ?_ 1 _ rfl; (with_reducible repeat (first | refine blk_drewN ?_ _ | refine blk_drew ?_ | refine blk_alloc ?_ _)); refine blk_put (cs := #[.int .i64 0, .int .i64 0, .int .i64 0]) ?_ 0 _ rfl; (with_reducible repeat (first | refine blk_drewN ?_ _ | refine blk_drew ?_ | refine blk_alloc ?_ _)); exact BK330.out) Tryz.underlying47 rfl (by kernel_rfl)) rfl ?_
  exact ⟨by first | rfl | (simp [errW_none, errW_some] <;> rfl) | (simp [*, errW_none, errW_some] <;> rfl), by repeat (first | (with_reducible first | exact HB.out | apply below_alloc | apply pw_below_drewN | apply below_drew1 | refine below_set ?_ GE329.out | refine below_set ?_ GE330.out) | exact HB.out)⟩

/-! ### spec_Replenish: function 192 -/
def spec_Replenish.f (p : Int) (k : Int) (c : Int) (d : Int) (v : Int) (u : Int) (g : Int) (a2 : Int) : Option (Int × Int × Int × Int) := (spec_l04Ok.f p k c d v u g).bind fun t1 => if t1 = true then ((spec_l00In.f a2 0 v).bind fun t2 => if t2 = true then ((spec_l04Fill.f v u g a2).bind fun b => some (b.1, b.2.1, b.2.2, 0)) else some (0, 0, 0, 2)) else some (0, 0, 0, 1)
set_option maxHeartbeats 8000000 in
set_option maxRecDepth 100000 in
theorem spec_Replenish.calls (p : Int) (k : Int) (c : Int) (d : Int) (v : Int) (u : Int) (g : Int) (a2 : Int) (r1 : Int) (r2 : Int) (r3 : Int) (r4 : Int) (w : World) (h : spec_Replenish.f p k c d v u g a2 = some (r1, r2, r3, r4)) :
  Calls Tryz.prog 192 #[.agg #[.int .i64 p, .int .i64 k, .int .i8 c, .int .i8 d], .agg #[.int .i64 v, .int .i64 u, .int .i64 g], .int .i64 a2] w fun e w' => e = .returned (.tuple #[.agg #[.int .i64 r1, .int .i64 r2, .int .i64 r3], .int .i64 r4]) ∧ Below w.heap.size w w' := by
 have H' := Aside0.mk (show spec_Replenish.f p k c d v u g a2 = some (r1, r2, r3, r4) from h)
 clear h
 have HD := Aside0.mk (show HBx (((w.alloc (.cells ([.int .i64 p, .int .i64 k, .int .i8 c, .int .i8 d] : List Value).toArray 45)).alloc (.cells ([.int .i64 v, .int .i64 u, .int .i64 g] : List Value).toArray 47)).alloc (.cells ([.int .i64 0, .int .i64 0, .int .i64 0] : List Value).toArray 47)) w.heap.size 45 [.int .i64 p, .int .i64 k, .int .i8 c, .int .i8 d] from alloc3_0 _ _ _ _)
 have HB := Aside0.mk (show HBx (((w.alloc (.cells ([.int .i64 p, .int .i64 k, .int .i8 c, .int .i8 d] : List Value).toArray 45)).alloc (.cells ([.int .i64 v, .int .i64 u, .int .i64 g] : List Value).toArray 47)).alloc (.cells ([.int .i64 0, .int .i64 0, .int .i64 0] : List Value).toArray 47)) (w.heap.size + 1) 47 [.int .i64 v, .int .i64 u, .int .i64 g] from alloc3_1 _ _ _ _)
 have HR := Aside0.mk (show HBx (((w.alloc (.cells ([.int .i64 p, .int .i64 k, .int .i8 c, .int .i8 d] : List Value).toArray 45)).alloc (.cells ([.int .i64 v, .int .i64 u, .int .i64 g] : List Value).toArray 47)).alloc (.cells ([.int .i64 0, .int .i64 0, .int .i64 0] : List Value).toArray 47)) (w.heap.size + 2) 47 [.int .i64 0, .int .i64 0, .int .i64 0] from alloc3_2 _ _ _ _)
 have HL := Aside0.mk (alloc3_below w (.cells ([.int .i64 p, .int .i64 k, .int .i8 c, .int .i8 d] : List Value).toArray 45) (.cells ([.int .i64 v, .int .i64 u, .int .i64 g] : List Value).toArray 47) (.cells ([.int .i64 0, .int .i64 0, .int .i64 0] : List Value).toArray 47))
 have H := H'.out
 clear H'
 unfold spec_Replenish.f at H
 go_enter Tryz.func192, Tryz.ntmps192
 obtain ⟨t1, e1, H⟩ := Option.bind_eq_some_iff.mp H
 have E1 := Aside0.mk e1
 clear e1
 have H' := Aside0.mk H
 clear H
 go_wp2_with (first | (refine hx_load rfl 45 _ rfl w.heap.size rfl 45 [.int .i64 p, .int .i64 k, .int .i8 c, .int .i8 d] HD.out _ Tryz.underlying45 rfl (by kernel_rfl) ?_) | (refine hx_load rfl 47 _ rfl (w.heap.size + 1) rfl 47 [.int .i64 v, .int .i64 u, .int .i64 g] HB.out _ Tryz.underlying47 rfl (by kernel_rfl) ?_))
 refine (spec_l04Ok.calls p k c d v u g t1 _ E1.out).mono ?_
 rintro e w1 ⟨rfl, hb⟩
 have HD1 := Aside0.mk (HD.out.below hb)
 have HB1 := Aside0.mk (HB.out.below hb)
 have HR1 := Aside0.mk (HR.out.below hb)
 have HL1 := Aside0.mk (below_step HL.out hb)
 clear hb HD HB HR HL
 have H := H'.out
 clear H'
 cases t1 with
 | false =>
  simp only [Bool.false_eq_true, if_false, Option.some.injEq, Prod.mk.injEq] at H
  obtain ⟨rfl, rfl, rfl, rfl⟩ := H
  go_wp2_with (first | (refine hx_store rfl 47 _ _ rfl (w.heap.size + 2) [.int .i64 0, .int .i64 0, .int .i64 0] rfl rfl 47 [.int .i64 0, .int .i64 0, .int .i64 0] HR1.out (by kernel_rfl) rfl (by rfl) ?_) | (refine hx_load rfl 45 _ rfl w.heap.size rfl 45 [.int .i64 p, .int .i64 k, .int .i8 c, .int .i8 d] HD1.out _ Tryz.underlying45 rfl (by kernel_rfl) ?_) | (refine hx_load rfl 47 _ rfl (w.heap.size + 1) rfl 47 [.int .i64 v, .int .i64 u, .int .i64 g] HB1.out _ Tryz.underlying47 rfl (by kernel_rfl) ?_))
  refine bodyPost_ret (results_ct rfl _ _ (w.heap.size + 2) 47 ([.int .i64 0, .int .i64 0, .int .i64 0] : List Value).toArray (0, 0) _ rfl (HR1.out.row [.int .i64 0, .int .i64 0, .int .i64 0]) Tryz.underlying47 rfl (by kernel_rfl)) rfl ?_
  exact ⟨rfl, hx_below HL1.out (by omega) _⟩
 | true =>
  rw [if_pos rfl] at H
  have hc0 := HB1.out.cell 0 (v := .int .i64 v) rfl
  obtain ⟨t2, e2, H⟩ := Option.bind_eq_some_iff.mp H
  have E2 := Aside0.mk e2
  clear e2
  have H' := Aside0.mk H
  clear H
  go_wp2_with (first | (refine hx_load rfl 45 _ rfl w.heap.size rfl 45 [.int .i64 p, .int .i64 k, .int .i8 c, .int .i8 d] HD1.out _ Tryz.underlying45 rfl (by kernel_rfl) ?_) | (refine hx_load rfl 47 _ rfl (w.heap.size + 1) rfl 47 [.int .i64 v, .int .i64 u, .int .i64 g] HB1.out _ Tryz.underlying47 rfl (by kernel_rfl) ?_))
  refine (spec_l00In.calls a2 0 v t2 _ E2.out).mono ?_
  rintro e w2 ⟨rfl, hb⟩
  replace hb := hb.below
  have HD2 := Aside0.mk (HD1.out.below hb)
  have HB2 := Aside0.mk (HB1.out.below hb)
  have HR2 := Aside0.mk (HR1.out.below hb)
  have HL2 := Aside0.mk (below_step HL1.out hb)
  clear hb HD1 HB1 HR1 HL1
  have H := H'.out
  clear H'
  clear hc0
  cases t2 with
  | false =>
   simp only [Bool.false_eq_true, if_false, Option.some.injEq, Prod.mk.injEq] at H
   obtain ⟨rfl, rfl, rfl, rfl⟩ := H
   go_wp2_with (first | (refine hx_store rfl 47 _ _ rfl (w.heap.size + 2) [.int .i64 0, .int .i64 0, .int .i64 0] rfl rfl 47 [.int .i64 0, .int .i64 0, .int .i64 0] HR2.out (by kernel_rfl) rfl (by rfl) ?_) | (refine hx_load rfl 45 _ rfl w.heap.size rfl 45 [.int .i64 p, .int .i64 k, .int .i8 c, .int .i8 d] HD2.out _ Tryz.underlying45 rfl (by kernel_rfl) ?_) | (refine hx_load rfl 47 _ rfl (w.heap.size + 1) rfl 47 [.int .i64 v, .int .i64 u, .int .i64 g] HB2.out _ Tryz.underlying47 rfl (by kernel_rfl) ?_))
   refine bodyPost_ret (results_ct rfl _ _ (w.heap.size + 2) 47 ([.int .i64 0, .int .i64 0, .int .i64 0] : List Value).toArray (0, 0) _ rfl (HR2.out.row [.int .i64 0, .int .i64 0, .int .i64 0]) Tryz.underlying47 rfl (by kernel_rfl)) rfl ?_
   exact ⟨rfl, hx_below HL2.out (by omega) _⟩
  | true =>
   rw [if_pos rfl] at H
   obtain ⟨⟨x1, x2, x3⟩, e3, H⟩ := Option.bind_eq_some_iff.mp H
   have E3 := Aside0.mk e3
   clear e3
   have H' := Aside0.mk H
   clear H
   go_wp2_with (first | (refine hx_load rfl 45 _ rfl w.heap.size rfl 45 [.int .i64 p, .int .i64 k, .int .i8 c, .int .i8 d] HD2.out _ Tryz.underlying45 rfl (by kernel_rfl) ?_) | (refine hx_load rfl 47 _ rfl (w.heap.size + 1) rfl 47 [.int .i64 v, .int .i64 u, .int .i64 g] HB2.out _ Tryz.underlying47 rfl (by kernel_rfl) ?_))
   refine (spec_l04Fill.calls v u g a2 x1 x2 x3 _ E3.out).mono ?_
   rintro e w3 ⟨rfl, hb⟩
   have HD3 := Aside0.mk (HD2.out.below hb)
   have HB3 := Aside0.mk (HB2.out.below hb)
   have HR3 := Aside0.mk (HR2.out.below hb)
   have HL3 := Aside0.mk (below_step HL2.out hb)
   clear hb HD2 HB2 HR2 HL2
   have H := H'.out
   clear H'
   simp only [Option.some.injEq, Prod.mk.injEq] at H
   obtain ⟨rfl, rfl, rfl, rfl⟩ := H
   go_wp2_with (first | (refine hx_store rfl 47 _ _ rfl (w.heap.size + 2) [.int .i64 x1, .int .i64 x2, .int .i64 x3] rfl rfl 47 [.int .i64 0, .int .i64 0, .int .i64 0] HR3.out (by kernel_rfl) rfl (by rfl) ?_) | (refine hx_load rfl 45 _ rfl w.heap.size rfl 45 [.int .i64 p, .int .i64 k, .int .i8 c, .int .i8 d] HD3.out _ Tryz.underlying45 rfl (by kernel_rfl) ?_) | (refine hx_load rfl 47 _ rfl (w.heap.size + 1) rfl 47 [.int .i64 v, .int .i64 u, .int .i64 g] HB3.out _ Tryz.underlying47 rfl (by kernel_rfl) ?_))
   refine bodyPost_ret (results_ct rfl _ _ (w.heap.size + 2) 47 ([.int .i64 x1, .int .i64 x2, .int .i64 x3] : List Value).toArray (0, 0) _ rfl (HR3.out.row [.int .i64 x1, .int .i64 x2, .int .i64 x3]) Tryz.underlying47 rfl (by kernel_rfl)) rfl ?_
   exact ⟨rfl, hx_below HL3.out (by omega) _⟩


/-! ### spec_l04Act: function 156 -/
def spec_l04Act.f (k : Nat) (a0_0 : Int) (a0_1 : Int) (a0_2 : Int) (a0_3 : Int) (a1_0 : Int) (a1_1 : Int) (a1_2 : Int) (a2_0 : Int) (a2_1 : Int) : Option (Int × Int × Int × Int) := if a2_0 = 0 then ((spec_DevelopSheet.f k a0_0 a0_1 a0_2 a0_3 a1_0 a1_1 a1_2 a2_1).bind fun bt335 => (some (bt335.1, bt335.2.1, bt335.2.2.1, bt335.2.2.2))) else (if a2_0 = 1 then ((spec_RestBath.f a0_0 a0_1 a0_2 a0_3 a1_0 a1_1 a1_2 a2_1).bind fun bt339 => (some (bt339.1, bt339.2.1, bt339.2.2.1, bt339.2.2.2))) else ((spec_Replenish.f a0_0 a0_1 a0_2 a0_3 a1_0 a1_1 a1_2 a2_1).bind fun bt343 => (some (bt343.1, bt343.2.1, bt343.2.2.1, bt343.2.2.2))))
theorem spec_l04Act.mono : ∀ a0 a1 a2 a3 a4 a5 a6 a7 a8 k, LeO (spec_l04Act.f k a0 a1 a2 a3 a4 a5 a6 a7 a8) (spec_l04Act.f (k + 1) a0 a1 a2 a3 a4 a5 a6 a7 a8) := by
 intro a0 a1 a2 a3 a4 a5 a6 a7 a8 k
 unfold spec_l04Act.f
 repeat' first
   | (with_reducible exact spec_DevelopSheet.mono _ _ _ _ _ _ _ _ _)
   | (with_reducible exact LeO.refl _)
   | (with_reducible exact LeO.none _)
   | (with_reducible refine LeO.ite ?_ ?_)
   | (with_reducible refine LeO.bind ?_ (fun _ => ?_))
   | exact spec_DevelopSheet.mono _ _ _ _ _ _ _ _ _
   | exact LeO.none _
   | refine LeO.ite ?_ ?_
   | refine LeO.bind ?_ (fun _ => ?_)
set_option maxHeartbeats 8000000 in
set_option maxRecDepth 100000 in
theorem spec_l04Act.calls (k : Nat) (a0_0 : Int) (a0_1 : Int) (a0_2 : Int) (a0_3 : Int) (a1_0 : Int) (a1_1 : Int) (a1_2 : Int) (a2_0 : Int) (a2_1 : Int) (r1 : Int) (r2 : Int) (r3 : Int) (r4 : Int) (w : World) (h : spec_l04Act.f k a0_0 a0_1 a0_2 a0_3 a1_0 a1_1 a1_2 a2_0 a2_1 = some (r1, r2, r3, r4)) :
  Calls Tryz.prog 156 #[.agg #[.int .i64 a0_0, .int .i64 a0_1, .int .i8 a0_2, .int .i8 a0_3], .agg #[.int .i64 a1_0, .int .i64 a1_1, .int .i64 a1_2], .agg #[.int .i8 a2_0, .int .i64 a2_1]] w fun e w' => e = .returned (.tuple #[.agg #[.int .i64 r1, .int .i64 r2, .int .i64 r3], .int .i64 r4]) ∧ Below w.heap.size w w' := by
 have hu45 := Tryz.underlying45
 have hu47 := Tryz.underlying47
 have hu65 := Tryz.underlying65
 have HB := Aside0.mk (Below.refl w.heap.size w)
 have H : (if a2_0 = 0 then ((spec_DevelopSheet.f k a0_0 a0_1 a0_2 a0_3 a1_0 a1_1 a1_2 a2_1).bind fun bt335 => (some (bt335.1, bt335.2.1, bt335.2.2.1, bt335.2.2.2))) else (if a2_0 = 1 then ((spec_RestBath.f a0_0 a0_1 a0_2 a0_3 a1_0 a1_1 a1_2 a2_1).bind fun bt339 => (some (bt339.1, bt339.2.1, bt339.2.2.1, bt339.2.2.2))) else ((spec_Replenish.f a0_0 a0_1 a0_2 a0_3 a1_0 a1_1 a1_2 a2_1).bind fun bt343 => (some (bt343.1, bt343.2.1, bt343.2.2.1, bt343.2.2.2))))) = some (r1, r2, r3, r4) := h
 clear h
 by_cases c4 : a2_0 = 0
 ·rw [if_pos c4] at H
  have c4b0 : (a2_0 == 0) = true := beq_iff_eq.mpr c4
  have c4b1 : (a2_0 != 0) = false := bne_eq_false_iff_eq.mpr c4
  clear c4
  replace H := Option.bind_eq_some_iff.mp H
  obtain ⟨⟨t335, t336, t337, t338⟩, A50, H⟩ := H
  replace H : (some (t335, t336, t337, t338)) = some (r1, r2, r3, r4) := H
  have A5 := Aside0.mk A50
  clear A50
  simp only [Option.some.injEq, Prod.mk.injEq] at H
  obtain ⟨rfl, rfl, rfl, rfl⟩ := H
  go_enter Tryz.func156, Tryz.ntmps156
  go_wp2_with (first | ((with_reducible refine gate_dst (N := 3) rfl ?_); refine box_event ?hg (N := 3) ?hd (cs := #[.int .i64 a0_0, .int .i64 a0_1, .int .i8 a0_2, .int .i8 a0_3]) (t := 45) ?hr ?_; (case hd => rfl); (case hg => rfl); (case hr => first | (go_simp; done) | (go_simp; rfl)); intro gb331 hg w6 hbox hb; have n0_ := Aside0.mk (below_step HB.out hb); have n1_ := Aside0.mk (hbox); have n2_ := Aside0.mk ((by rw [hg]; exact (below_size HB.out) : w.heap.size ≤ gb331)); have n3_ := Aside0.mk ((by rw [hg]; exact (below_size HB.out) : w.heap.size ≤ gb331)); clear HB; have HB := n0_; have BK331 := n1_; have GW331 := n2_; have GE331 := n3_; clear n0_ n1_ n2_ n3_; clear hb hbox hg) | ((with_reducible refine gate_dst (N := 4) rfl ?_); refine box_event ?hg (N := 4) ?hd (cs := #[.int .i64 a1_0, .int .i64 a1_1, .int .i64 a1_2]) (t := 47) ?hr ?_; (case hd => rfl); (case hg => rfl); (case hr => first | (go_simp; done) | (go_simp; rfl)); intro gb332 hg w7 hbox hb; have n0_ := Aside0.mk (blk_below BK331.out hb); have n1_ := Aside0.mk (below_step HB.out hb); have n2_ := Aside0.mk (hbox); have n3_ := Aside0.mk ((by rw [hg]; exact (below_size HB.out) : w.heap.size ≤ gb332)); have n4_ := Aside0.mk ((by rw [hg]; exact (below_size HB.out) : w.heap.size ≤ gb332)); have n5_ := Aside0.mk ((by rw [hg]; exact Nat.ne_of_lt (blk_lt BK331.out) : gb331 ≠ gb332)); have n6_ := Aside0.mk ((by rw [hg]; exact Nat.ne_of_gt (blk_lt BK331.out) : gb332 ≠ gb331)); clear BK331; clear HB; have BK331 := n0_; have HB := n1_; have BK332 := n2_; have GW332 := n3_; have GE332 := n4_; have NB331_332 := n5_; have NB332_331 := n6_; clear n0_ n1_ n2_ n3_ n4_ n5_ n6_; clear hb hbox hg) | ((with_reducible refine gate_dst (N := 5) rfl ?_); refine box_event ?hg (N := 5) ?hd (cs := #[.int .i8 a2_0, .int .i64 a2_1]) (t := 65) ?hr ?_; (case hd => rfl); (case hg => rfl); (case hr => first | (go_simp; done) | (go_simp; rfl)); intro gb333 hg w8 hbox hb; have n0_ := Aside0.mk (blk_below BK331.out hb); have n1_ := Aside0.mk (blk_below BK332.out hb); have n2_ := Aside0.mk (below_step HB.out hb); have n3_ := Aside0.mk (hbox); have n4_ := Aside0.mk ((by rw [hg]; exact (below_size HB.out) : w.heap.size ≤ gb333)); have n5_ := Aside0.mk ((by rw [hg]; exact (below_size HB.out) : w.heap.size ≤ gb333)); have n6_ := Aside0.mk ((by rw [hg]; exact Nat.ne_of_lt (blk_lt BK331.out) : gb331 ≠ gb333)); have n7_ := Aside0.mk ((by rw [hg]; exact Nat.ne_of_gt (blk_lt BK331.out) : gb333 ≠ gb331)); have n8_ := Aside0.mk ((by rw [hg]; exact Nat.ne_of_lt (blk_lt BK332.out) : gb332 ≠ gb333)); have n9_ := Aside0.mk ((by rw [hg]; exact Nat.ne_of_gt (blk_lt BK332.out) : gb333 ≠ gb332)); clear BK331; clear BK332; clear HB; have BK331 := n0_; have BK332 := n1_; have HB := n2_; have BK333 := n3_; have GW333 := n4_; have GE333 := n5_; have NB331_333 := n6_; have NB333_331 := n7_; have NB332_333 := n8_; have NB333_332 := n9_; clear n0_ n1_ n2_ n3_ n4_ n5_ n6_ n7_ n8_ n9_; clear hb hbox hg) | ((with_reducible refine gate_dst (N := 6) rfl ?_); refine box_event ?hg (N := 6) ?hd (cs := #[.int .i64 0, .int .i64 0, .int .i64 0]) (t := 47) ?hr ?_; (case hd => rfl); (case hg => rfl); (case hr => first | (go_simp; done) | (go_simp; rfl)); intro gb334 hg w9 hbox hb; have n0_ := Aside0.mk (blk_below BK331.out hb); have n1_ := Aside0.mk (blk_below BK332.out hb); have n2_ := Aside0.mk (blk_below BK333.out hb); have n3_ := Aside0.mk (below_step HB.out hb); have n4_ := Aside0.mk (hbox); have n5_ := Aside0.mk ((by rw [hg]; exact (below_size HB.out) : w.heap.size ≤ gb334)); have n6_ := Aside0.mk ((by rw [hg]; exact (below_size HB.out) : w.heap.size ≤ gb334)); have n7_ := Aside0.mk ((by rw [hg]; exact Nat.ne_of_lt (blk_lt BK331.out) : gb331 ≠ gb334)); have n8_ := Aside0.mk ((by rw [hg]; exact Nat.ne_of_gt (blk_lt BK331.out) : gb334 ≠ gb331)); have n9_ := Aside0.mk ((by rw [hg]; exact Nat.ne_of_lt (blk_lt BK332.out) : gb332 ≠ gb334)); have n10_ := Aside0.mk ((by rw [hg]; exact Nat.ne_of_gt (blk_lt BK332.out) : gb334 ≠ gb332)); have n11_ := Aside0.mk ((by rw [hg]; exact Nat.ne_of_lt (blk_lt BK333.out) : gb333 ≠ gb334)); have n12_ := Aside0.mk ((by rw [hg]; exact Nat.ne_of_gt (blk_lt BK333.out) : gb334 ≠ gb333)); clear BK331; clear BK332; clear BK333; clear HB; have BK331 := n0_; have BK332 := n1_; have BK333 := n2_; have HB := n3_; have BK334 := n4_; have GW334 := n5_; have GE334 := n6_; have NB331_334 := n7_; have NB334_331 := n8_; have NB332_334 := n9_; have NB334_332 := n10_; have NB333_334 := n11_; have NB334_333 := n12_; clear n0_ n1_ n2_ n3_ n4_ n5_ n6_ n7_ n8_ n9_ n10_ n11_ n12_; clear hb hbox hg; have hnb10 := NB333_331.out; have hnc10 := NB331_333.out; have hnb11 := NB333_332.out; have hnc11 := NB332_333.out; have hnb12 := NB333_334.out; have hnc12 := NB334_333.out; have hcz13_0 := blk_c BK333.out 0 rfl; have hcz13_1 := blk_c BK333.out 1 rfl; have hfz13_0 := blk_frozen BK333.out 0; have hfz13_1 := blk_frozen BK333.out 1; have hnb14 := NB331_332.out; have hnc14 := NB332_331.out; have hnb15 := NB331_334.out; have hnc15 := NB334_331.out; have hcz16_0 := blk_c BK331.out 0 rfl; have hcz16_1 := blk_c BK331.out 1 rfl; have hcz16_2 := blk_c BK331.out 2 rfl; have hcz16_3 := blk_c BK331.out 3 rfl; have hfz16_0 := blk_frozen BK331.out 0; have hfz16_1 := blk_frozen BK331.out 1; have hfz16_2 := blk_frozen BK331.out 2; have hfz16_3 := blk_frozen BK331.out 3; have hnb17 := NB332_334.out; have hnc17 := NB334_332.out; have hcz18_0 := blk_c BK332.out 0 rfl; have hcz18_1 := blk_c BK332.out 1 rfl; have hcz18_2 := blk_c BK332.out 2 rfl; have hfz18_0 := blk_frozen BK332.out 0; have hfz18_1 := blk_frozen BK332.out 1; have hfz18_2 := blk_frozen BK332.out 2) | ((with_reducible refine gate_callee (f := 190) rfl ?_); refine goesL_ (some 16) rfl rfl Tryz.func190 (by kernel_rfl) rfl #[.agg #[.int .i64 a0_0, .int .i64 a0_1, .int .i8 a0_2, .int .i8 a0_3], .agg #[.int .i64 a1_0, .int .i64 a1_1, .int .i64 a1_2], .int .i64 a2_1] rfl (by (try simp only [List.map_toArray, List.map_cons, List.map_nil]); first | done | rfl | (simp only [List.length_drop, List.length_take]; rfl)) ?_; (with_reducible refine (spec_DevelopSheet.calls k a0_0 a0_1 a0_2 a0_3 a1_0 a1_1 a1_2 a2_1 t335 t336 t337 t338 _ A5.out).mono ?_); rintro e w19 ⟨rfl, hb⟩; refine ⟨_, rfl, ?_⟩; have n0_ := Aside0.mk (blk_below BK331.out hb); have n1_ := Aside0.mk (blk_below BK332.out hb); have n2_ := Aside0.mk (blk_below BK333.out hb); have n3_ := Aside0.mk (blk_below BK334.out hb); have n4_ := Aside0.mk (below_step HB.out hb); clear BK331; clear BK332; clear BK333; clear BK334; clear HB; have BK331 := n0_; have BK332 := n1_; have BK333 := n2_; have BK334 := n3_; have HB := n4_; clear n0_ n1_ n2_ n3_ n4_; (try clear hb); (try clear hb2); (try clear hk); (try clear hi); have hcz20_0 := blk_c BK334.out 0 rfl; have hcz20_1 := blk_c BK334.out 1 rfl; have hcz20_2 := blk_c BK334.out 2 rfl; have hfz20_0 := blk_frozen BK334.out 0; have hfz20_1 := blk_frozen BK334.out 1; have hfz20_2 := blk_frozen BK334.out 2))
  refine bodyPost_ret (results_ct rfl _ _ gb334 47 #[.int .i64 t335, .int .i64 t336, .int .i64 t337] (0, 0) _ rfl (by (with_reducible repeat (first | refine blk_drewN ?_ _ | refine blk_drew ?_ | refine blk_alloc ?_ _)); refine blk_put (cs := #[.int .i64 t335, .int .i64 t336, .int .i64 0]) ?_ 2 _ rfl; (with_reducible repeat (first | refine blk_drewN ?_ _ | refine blk_drew ?_ | refine blk_alloc ?_ _)); refine blk_put (cs := #[.int .i64 t335, .int .i64 0, .int .i64 0]) ?_ 1 _ rfl; (with_reducible repeat (first | refine blk_drewN ?_ _ | refine blk_drew ?_ | refine blk_alloc ?_ _)); refine blk_put (cs := #[.int .i64 0, .int .i64 0, .int .i64 0]) ?_ 0 _ rfl; (with_reducible repeat (first | refine blk_drewN ?_ _ | refine blk_drew ?_ | refine blk_alloc ?_ _)); exact BK334.out) Tryz.underlying47 rfl (by kernel_rfl)) rfl ?_
  exact ⟨by first | rfl | (simp [errW_none, errW_some] <;> rfl) | (simp [*, errW_none, errW_some] <;> rfl), by repeat (first | (with_reducible first | exact HB.out | apply below_alloc | apply pw_below_drewN | apply below_drew1 | refine below_set ?_ GE331.out | refine below_set ?_ GE332.out | refine below_set ?_ GE333.out | refine below_set ?_ GE334.out) | exact HB.out)⟩
 ·rw [if_neg c4] at H
  have c4b0 : (a2_0 == 0) = false := beq_eq_false_iff_ne.mpr c4
  have c4b1 : (a2_0 != 0) = true := bne_iff_ne.mpr c4
  by_cases c21 : a2_0 = 1
  ·rw [if_pos c21] at H
   have c21b0 : (a2_0 == 1) = true := beq_iff_eq.mpr c21
   have c21b1 : (a2_0 != 1) = false := bne_eq_false_iff_eq.mpr c21
   clear c21
   replace H := Option.bind_eq_some_iff.mp H
   obtain ⟨⟨t339, t340, t341, t342⟩, A220, H⟩ := H
   replace H : (some (t339, t340, t341, t342)) = some (r1, r2, r3, r4) := H
   have A22 := Aside0.mk A220
   clear A220
   simp only [Option.some.injEq, Prod.mk.injEq] at H
   obtain ⟨rfl, rfl, rfl, rfl⟩ := H
   go_enter Tryz.func156, Tryz.ntmps156
   go_wp2_with (first | ((with_reducible refine gate_dst (N := 3) rfl ?_); refine box_event ?hg (N := 3) ?hd (cs := #[.int .i64 a0_0, .int .i64 a0_1, .int .i8 a0_2, .int .i8 a0_3]) (t := 45) ?hr ?_; (case hd => rfl); (case hg => rfl); (case hr => first | (go_simp; done) | (go_simp; rfl)); intro gb331 hg w23 hbox hb; have n0_ := Aside0.mk (below_step HB.out hb); have n1_ := Aside0.mk (hbox); have n2_ := Aside0.mk ((by rw [hg]; exact (below_size HB.out) : w.heap.size ≤ gb331)); have n3_ := Aside0.mk ((by rw [hg]; exact (below_size HB.out) : w.heap.size ≤ gb331)); clear HB; have HB := n0_; have BK331 := n1_; have GW331 := n2_; have GE331 := n3_; clear n0_ n1_ n2_ n3_; clear hb hbox hg) | ((with_reducible refine gate_dst (N := 4) rfl ?_); refine box_event ?hg (N := 4) ?hd (cs := #[.int .i64 a1_0, .int .i64 a1_1, .int .i64 a1_2]) (t := 47) ?hr ?_; (case hd => rfl); (case hg => rfl); (case hr => first | (go_simp; done) | (go_simp; rfl)); intro gb332 hg w24 hbox hb; have n0_ := Aside0.mk (blk_below BK331.out hb); have n1_ := Aside0.mk (below_step HB.out hb); have n2_ := Aside0.mk (hbox); have n3_ := Aside0.mk ((by rw [hg]; exact (below_size HB.out) : w.heap.size ≤ gb332)); have n4_ := Aside0.mk ((by rw [hg]; exact (below_size HB.out) : w.heap.size ≤ gb332)); have n5_ := Aside0.mk ((by rw [hg]; exact Nat.ne_of_lt (blk_lt BK331.out) : gb331 ≠ gb332)); have n6_ := Aside0.mk ((by rw [hg]; exact Nat.ne_of_gt (blk_lt BK331.out) : gb332 ≠ gb331)); clear BK331; clear HB; have BK331 := n0_; have HB := n1_; have BK332 := n2_; have GW332 := n3_; have GE332 := n4_; have NB331_332 := n5_; have NB332_331 := n6_; clear n0_ n1_ n2_ n3_ n4_ n5_ n6_; clear hb hbox hg) | ((with_reducible refine gate_dst (N := 5) rfl ?_); refine box_event ?hg (N := 5) ?hd (cs := #[.int .i8 a2_0, .int .i64 a2_1]) (t := 65) ?hr ?_; (case hd => rfl); (case hg => rfl); (case hr => first | (go_simp; done) | (go_simp; rfl)); intro gb333 hg w25 hbox hb; have n0_ := Aside0.mk (blk_below BK331.out hb); have n1_ := Aside0.mk (blk_below BK332.out hb); have n2_ := Aside0.mk (below_step HB.out hb); have n3_ := Aside0.mk (hbox); have n4_ := Aside0.mk ((by rw [hg]; exact (below_size HB.out) : w.heap.size ≤ gb333)); have n5_ := Aside0.mk ((by rw [hg]; exact (below_size HB.out) : w.heap.size ≤ gb333)); have n6_ := Aside0.mk ((by rw [hg]; exact Nat.ne_of_lt (blk_lt BK331.out) : gb331 ≠ gb333)); have n7_ := Aside0.mk ((by rw [hg]; exact Nat.ne_of_gt (blk_lt BK331.out) : gb333 ≠ gb331)); have n8_ := Aside0.mk ((by rw [hg]; exact Nat.ne_of_lt (blk_lt BK332.out) : gb332 ≠ gb333)); have n9_ := Aside0.mk ((by rw [hg]; exact Nat.ne_of_gt (blk_lt BK332.out) : gb333 ≠ gb332)); clear BK331; clear BK332; clear HB; have BK331 := n0_; have BK332 := n1_; have HB := n2_; have BK333 := n3_; have GW333 := n4_; have GE333 := n5_; have NB331_333 := n6_; have NB333_331 := n7_; have NB332_333 := n8_; have NB333_332 := n9_; clear n0_ n1_ n2_ n3_ n4_ n5_ n6_ n7_ n8_ n9_; clear hb hbox hg) | ((with_reducible refine gate_dst (N := 6) rfl ?_); refine box_event ?hg (N := 6) ?hd (cs := #[.int .i64 0, .int .i64 0, .int .i64 0]) (t := 47) ?hr ?_; (case hd => rfl); (case hg => rfl); (case hr => first | (go_simp; done) | (go_simp; rfl)); intro gb334 hg w26 hbox hb; have n0_ := Aside0.mk (blk_below BK331.out hb); have n1_ := Aside0.mk (blk_below BK332.out hb); have n2_ := Aside0.mk (blk_below BK333.out hb); have n3_ := Aside0.mk (below_step HB.out hb); have n4_ := Aside0.mk (hbox); have n5_ := Aside0.mk ((by rw [hg]; exact (below_size HB.out) : w.heap.size ≤ gb334)); have n6_ := Aside0.mk ((by rw [hg]; exact (below_size HB.out) : w.heap.size ≤ gb334)); have n7_ := Aside0.mk ((by rw [hg]; exact Nat.ne_of_lt (blk_lt BK331.out) : gb331 ≠ gb334)); have n8_ := Aside0.mk ((by rw [hg]; exact Nat.ne_of_gt (blk_lt BK331.out) : gb334 ≠ gb331)); have n9_ := Aside0.mk ((by rw [hg]; exact Nat.ne_of_lt (blk_lt BK332.out) : gb332 ≠ gb334)); have n10_ := Aside0.mk ((by rw [hg]; exact Nat.ne_of_gt (blk_lt BK332.out) : gb334 ≠ gb332)); have n11_ := Aside0.mk ((by rw [hg]; exact Nat.ne_of_lt (blk_lt BK333.out) : gb333 ≠ gb334)); have n12_ := Aside0.mk ((by rw [hg]; exact Nat.ne_of_gt (blk_lt BK333.out) : gb334 ≠ gb333)); clear BK331; clear BK332; clear BK333; clear HB; have BK331 := n0_; have BK332 := n1_; have BK333 := n2_; have HB := n3_; have BK334 := n4_; have GW334 := n5_; have GE334 := n6_; have NB331_334 := n7_; have NB334_331 := n8_; have NB332_334 := n9_; have NB334_332 := n10_; have NB333_334 := n11_; have NB334_333 := n12_; clear n0_ n1_ n2_ n3_ n4_ n5_ n6_ n7_ n8_ n9_ n10_ n11_ n12_; clear hb hbox hg; have hnb27 := NB333_331.out; have hnc27 := NB331_333.out; have hnb28 := NB333_332.out; have hnc28 := NB332_333.out; have hnb29 := NB333_334.out; have hnc29 := NB334_333.out; have hcz30_0 := blk_c BK333.out 0 rfl; have hcz30_1 := blk_c BK333.out 1 rfl; have hfz30_0 := blk_frozen BK333.out 0; have hfz30_1 := blk_frozen BK333.out 1; have hnb31 := NB331_332.out; have hnc31 := NB332_331.out; have hnb32 := NB331_334.out; have hnc32 := NB334_331.out; have hcz33_0 := blk_c BK331.out 0 rfl; have hcz33_1 := blk_c BK331.out 1 rfl; have hcz33_2 := blk_c BK331.out 2 rfl; have hcz33_3 := blk_c BK331.out 3 rfl; have hfz33_0 := blk_frozen BK331.out 0; have hfz33_1 := blk_frozen BK331.out 1; have hfz33_2 := blk_frozen BK331.out 2; have hfz33_3 := blk_frozen BK331.out 3; have hnb34 := NB332_334.out; have hnc34 := NB334_332.out; have hcz35_0 := blk_c BK332.out 0 rfl; have hcz35_1 := blk_c BK332.out 1 rfl; have hcz35_2 := blk_c BK332.out 2 rfl; have hfz35_0 := blk_frozen BK332.out 0; have hfz35_1 := blk_frozen BK332.out 1; have hfz35_2 := blk_frozen BK332.out 2) | ((with_reducible refine gate_callee (f := 191) rfl ?_); refine goesL_ (some 25) rfl rfl Tryz.func191 (by kernel_rfl) rfl #[.agg #[.int .i64 a0_0, .int .i64 a0_1, .int .i8 a0_2, .int .i8 a0_3], .agg #[.int .i64 a1_0, .int .i64 a1_1, .int .i64 a1_2], .int .i64 a2_1] rfl (by (try simp only [List.map_toArray, List.map_cons, List.map_nil]); first | done | rfl | (simp only [List.length_drop, List.length_take]; rfl)) ?_; (with_reducible refine (spec_RestBath.calls a0_0 a0_1 a0_2 a0_3 a1_0 a1_1 a1_2 a2_1 t339 t340 t341 t342 _ A22.out).mono ?_); rintro e w36 ⟨rfl, hb⟩; refine ⟨_, rfl, ?_⟩; have n0_ := Aside0.mk (blk_below BK331.out hb); have n1_ := Aside0.mk (blk_below BK332.out hb); have n2_ := Aside0.mk (blk_below BK333.out hb); have n3_ := Aside0.mk (blk_below BK334.out hb); have n4_ := Aside0.mk (below_step HB.out hb); clear BK331; clear BK332; clear BK333; clear BK334; clear HB; have BK331 := n0_; have BK332 := n1_; have BK333 := n2_; have BK334 := n3_; have HB := n4_; clear n0_ n1_ n2_ n3_ n4_; (try clear hb); (try clear hb2); (try clear hk); (try clear hi); have hcz37_0 := blk_c BK334.out 0 rfl; have hcz37_1 := blk_c BK334.out 1 rfl; have hcz37_2 := blk_c BK334.out 2 rfl; have hfz37_0 := blk_frozen BK334.out 0; have hfz37_1 := blk_frozen BK334.out 1; have hfz37_2 := blk_frozen BK334.out 2))
   refine bodyPost_ret (results_ct rfl _ _ gb334 47 #[.int .i64 t339, .int .i64 t340, .int .i64 t341] (0, 0) _ rfl (by (with_reducible repeat (first | refine blk_drewN ?_ _ | refine blk_drew ?_ | refine blk_alloc ?_ _)); refine blk_put (cs := #[.int .i64 t339, .int .i64 t340, .int .i64 0]) ?_ 2 _ rfl; (with_reducible repeat (first | refine blk_drewN ?_ _ | refine blk_drew ?_ | refine blk_alloc ?_ _)); refine blk_put (cs := #[.int .i64 t339, .int .i64 0, .int .i64 0]) ?_ 1 _ rfl; (with_reducible repeat (first | refine blk_drewN ?_ _ | refine blk_drew ?_ | refine blk_alloc ?_ _)); refine blk_put (cs := #[.int .i64 0, .int .i64 0, .int .i64 0]) ?_ 0 _ rfl; (with_reducible repeat (first | refine blk_drewN ?_ _ | refine blk_drew ?_ | refine blk_alloc ?_ _)); exact BK334.out) Tryz.underlying47 rfl (by kernel_rfl)) rfl ?_
   exact ⟨by first | rfl | (simp [errW_none, errW_some] <;> rfl) | (simp [*, errW_none, errW_some] <;> rfl), by repeat (first | (with_reducible first | exact HB.out | apply below_alloc | apply pw_below_drewN | apply below_drew1 | refine below_set ?_ GE331.out | refine below_set ?_ GE332.out | refine below_set ?_ GE333.out | refine below_set ?_ GE334.out) | exact HB.out)⟩
  ·rw [if_neg c21] at H
   have c21b0 : (a2_0 == 1) = false := beq_eq_false_iff_ne.mpr c21
   have c21b1 : (a2_0 != 1) = true := bne_iff_ne.mpr c21
   replace H := Option.bind_eq_some_iff.mp H
   obtain ⟨⟨t343, t344, t345, t346⟩, A380, H⟩ := H
   replace H : (some (t343, t344, t345, t346)) = some (r1, r2, r3, r4) := H
   have A38 := Aside0.mk A380
   clear A380
   simp only [Option.some.injEq, Prod.mk.injEq] at H
   obtain ⟨rfl, rfl, rfl, rfl⟩ := H
   go_enter Tryz.func156, Tryz.ntmps156
   go_wp2_with (first | ((with_reducible refine gate_dst (N := 3) rfl ?_); refine box_event ?hg (N := 3) ?hd (cs := #[.int .i64 a0_0, .int .i64 a0_1, .int .i8 a0_2, .int .i8 a0_3]) (t := 45) ?hr ?_; (case hd => rfl); (case hg => rfl); (case hr => first | (go_simp; done) | (go_simp; rfl)); intro gb331 hg w39 hbox hb; have n0_ := Aside0.mk (below_step HB.out hb); have n1_ := Aside0.mk (hbox); have n2_ := Aside0.mk ((by rw [hg]; exact (below_size HB.out) : w.heap.size ≤ gb331)); have n3_ := Aside0.mk ((by rw [hg]; exact (below_size HB.out) : w.heap.size ≤ gb331)); clear HB; have HB := n0_; have BK331 := n1_; have GW331 := n2_; have GE331 := n3_; clear n0_ n1_ n2_ n3_; clear hb hbox hg) | ((with_reducible refine gate_dst (N := 4) rfl ?_); refine box_event ?hg (N := 4) ?hd (cs := #[.int .i64 a1_0, .int .i64 a1_1, .int .i64 a1_2]) (t := 47) ?hr ?_; (case hd => rfl); (case hg => rfl); (case hr => first | (go_simp; done) | (go_simp; rfl)); intro gb332 hg w40 hbox hb; have n0_ := Aside0.mk (blk_below BK331.out hb); have n1_ := Aside0.mk (below_step HB.out hb); have n2_ := Aside0.mk (hbox); have n3_ := Aside0.mk ((by rw [hg]; exact (below_size HB.out) : w.heap.size ≤ gb332)); have n4_ := Aside0.mk ((by rw [hg]; exact (below_size HB.out) : w.heap.size ≤ gb332)); have n5_ := Aside0.mk ((by rw [hg]; exact Nat.ne_of_lt (blk_lt BK331.out) : gb331 ≠ gb332)); have n6_ := Aside0.mk ((by rw [hg]; exact Nat.ne_of_gt (blk_lt BK331.out) : gb332 ≠ gb331)); clear BK331; clear HB; have BK331 := n0_; have HB := n1_; have BK332 := n2_; have GW332 := n3_; have GE332 := n4_; have NB331_332 := n5_; have NB332_331 := n6_; clear n0_ n1_ n2_ n3_ n4_ n5_ n6_; clear hb hbox hg) | ((with_reducible refine gate_dst (N := 5) rfl ?_); refine box_event ?hg (N := 5) ?hd (cs := #[.int .i8 a2_0, .int .i64 a2_1]) (t := 65) ?hr ?_; (case hd => rfl); (case hg => rfl); (case hr => first | (go_simp; done) | (go_simp; rfl)); intro gb333 hg w41 hbox hb; have n0_ := Aside0.mk (blk_below BK331.out hb); have n1_ := Aside0.mk (blk_below BK332.out hb); have n2_ := Aside0.mk (below_step HB.out hb); have n3_ := Aside0.mk (hbox); have n4_ := Aside0.mk ((by rw [hg]; exact (below_size HB.out) : w.heap.size ≤ gb333)); have n5_ := Aside0.mk ((by rw [hg]; exact (below_size HB.out) : w.heap.size ≤ gb333)); have n6_ := Aside0.mk ((by rw [hg]; exact Nat.ne_of_lt (blk_lt BK331.out) : gb331 ≠ gb333)); have n7_ := Aside0.mk ((by rw [hg]; exact Nat.ne_of_gt (blk_lt BK331.out) : gb333 ≠ gb331)); have n8_ := Aside0.mk ((by rw [hg]; exact Nat.ne_of_lt (blk_lt BK332.out) : gb332 ≠ gb333)); have n9_ := Aside0.mk ((by rw [hg]; exact Nat.ne_of_gt (blk_lt BK332.out) : gb333 ≠ gb332)); clear BK331; clear BK332; clear HB; have BK331 := n0_; have BK332 := n1_; have HB := n2_; have BK333 := n3_; have GW333 := n4_; have GE333 := n5_; have NB331_333 := n6_; have NB333_331 := n7_; have NB332_333 := n8_; have NB333_332 := n9_; clear n0_ n1_ n2_ n3_ n4_ n5_ n6_ n7_ n8_ n9_; clear hb hbox hg) | ((with_reducible refine gate_dst (N := 6) rfl ?_); refine box_event ?hg (N := 6) ?hd (cs := #[.int .i64 0, .int .i64 0, .int .i64 0]) (t := 47) ?hr ?_; (case hd => rfl); (case hg => rfl); (case hr => first | (go_simp; done) | (go_simp; rfl)); intro gb334 hg w42 hbox hb; have n0_ := Aside0.mk (blk_below BK331.out hb); have n1_ := Aside0.mk (blk_below BK332.out hb); have n2_ := Aside0.mk (blk_below BK333.out hb); have n3_ := Aside0.mk (below_step HB.out hb); have n4_ := Aside0.mk (hbox); have n5_ := Aside0.mk ((by rw [hg]; exact (below_size HB.out) : w.heap.size ≤ gb334)); have n6_ := Aside0.mk ((by rw [hg]; exact (below_size HB.out) : w.heap.size ≤ gb334)); have n7_ := Aside0.mk ((by rw [hg]; exact Nat.ne_of_lt (blk_lt BK331.out) : gb331 ≠ gb334)); have n8_ := Aside0.mk ((by rw [hg]; exact Nat.ne_of_gt (blk_lt BK331.out) : gb334 ≠ gb331)); have n9_ := Aside0.mk ((by rw [hg]; exact Nat.ne_of_lt (blk_lt BK332.out) : gb332 ≠ gb334)); have n10_ := Aside0.mk ((by rw [hg]; exact Nat.ne_of_gt (blk_lt BK332.out) : gb334 ≠ gb332)); have n11_ := Aside0.mk ((by rw [hg]; exact Nat.ne_of_lt (blk_lt BK333.out) : gb333 ≠ gb334)); have n12_ := Aside0.mk ((by rw [hg]; exact Nat.ne_of_gt (blk_lt BK333.out) : gb334 ≠ gb333)); clear BK331; clear BK332; clear BK333; clear HB; have BK331 := n0_; have BK332 := n1_; have BK333 := n2_; have HB := n3_; have BK334 := n4_; have GW334 := n5_; have GE334 := n6_; have NB331_334 := n7_; have NB334_331 := n8_; have NB332_334 := n9_; have NB334_332 := n10_; have NB333_334 := n11_; have NB334_333 := n12_; clear n0_ n1_ n2_ n3_ n4_ n5_ n6_ n7_ n8_ n9_ n10_ n11_ n12_; clear hb hbox hg; have hnb43 := NB333_331.out; have hnc43 := NB331_333.out; have hnb44 := NB333_332.out; have hnc44 := NB332_333.out; have hnb45 := NB333_334.out; have hnc45 := NB334_333.out; have hcz46_0 := blk_c BK333.out 0 rfl; have hcz46_1 := blk_c BK333.out 1 rfl; have hfz46_0 := blk_frozen BK333.out 0; have hfz46_1 := blk_frozen BK333.out 1; have hnb47 := NB331_332.out; have hnc47 := NB332_331.out; have hnb48 := NB331_334.out; have hnc48 := NB334_331.out; have hcz49_0 := blk_c BK331.out 0 rfl; have hcz49_1 := blk_c BK331.out 1 rfl; have hcz49_2 := blk_c BK331.out 2 rfl; have hcz49_3 := blk_c BK331.out 3 rfl; have hfz49_0 := blk_frozen BK331.out 0; have hfz49_1 := blk_frozen BK331.out 1; have hfz49_2 := blk_frozen BK331.out 2; have hfz49_3 := blk_frozen BK331.out 3; have hnb50 := NB332_334.out; have hnc50 := NB334_332.out; have hcz51_0 := blk_c BK332.out 0 rfl; have hcz51_1 := blk_c BK332.out 1 rfl; have hcz51_2 := blk_c BK332.out 2 rfl; have hfz51_0 := blk_frozen BK332.out 0; have hfz51_1 := blk_frozen BK332.out 1; have hfz51_2 := blk_frozen BK332.out 2) | ((with_reducible refine gate_callee (f := 192) rfl ?_); refine goesL_ (some 32) rfl rfl Tryz.func192 (by kernel_rfl) rfl #[.agg #[.int .i64 a0_0, .int .i64 a0_1, .int .i8 a0_2, .int .i8 a0_3], .agg #[.int .i64 a1_0, .int .i64 a1_1, .int .i64 a1_2], .int .i64 a2_1] rfl (by (try simp only [List.map_toArray, List.map_cons, List.map_nil]); first | done | rfl | (simp only [List.length_drop, List.length_take]; rfl)) ?_; (with_reducible refine (spec_Replenish.calls a0_0 a0_1 a0_2 a0_3 a1_0 a1_1 a1_2 a2_1 t343 t344 t345 t346 _ A38.out).mono ?_); rintro e w52 ⟨rfl, hb⟩; refine ⟨_, rfl, ?_⟩; have n0_ := Aside0.mk (blk_below BK331.out hb); have n1_ := Aside0.mk (blk_below BK332.out hb); have n2_ := Aside0.mk (blk_below BK333.out hb); have n3_ := Aside0.mk (blk_below BK334.out hb); have n4_ := Aside0.mk (below_step HB.out hb); clear BK331; clear BK332; clear BK333; clear BK334; clear HB; have BK331 := n0_; have BK332 := n1_; have BK333 := n2_; have BK334 := n3_; have HB := n4_; clear n0_ n1_ n2_ n3_ n4_; (try clear hb); (try clear hb2); (try clear hk); (try clear hi); have hcz53_0 := blk_c BK334.out 0 rfl; have hcz53_1 := blk_c BK334.out 1 rfl; have hcz53_2 := blk_c BK334.out 2 rfl; have hfz53_0 := blk_frozen BK334.out 0; have hfz53_1 := blk_frozen BK334.out 1; have hfz53_2 := blk_frozen BK334.out 2))
   refine bodyPost_ret (results_ct rfl _ _ gb334 47 #[.int .i64 t343, .int .i64 t344, .int .i64 t345] (0, 0) _ rfl (by (with_reducible repeat (first | refine blk_drewN ?_ _ | refine blk_drew ?_ | refine blk_alloc ?_ _)); refine blk_put (cs := #[.int .i64 t343, .int .i64 t344, .int .i64 0]) ?_ 2 _ rfl; (with_reducible repeat (first | refine blk_drewN ?_ _ | refine blk_drew ?_ | refine blk_alloc ?_ _)); refine blk_put (cs := #[.int .i64 t343, .int .i64 0, .int .i64 0]) ?_ 1 _ rfl; (with_reducible repeat (first | refine blk_drewN ?_ _ | refine blk_drew ?_ | refine blk_alloc ?_ _)); refine blk_put (cs := #[.int .i64 0, .int .i64 0, .int .i64 0]) ?_ 0 _ rfl; (with_reducible repeat (first | refine blk_drewN ?_ _ | refine blk_drew ?_ | refine blk_alloc ?_ _)); exact BK334.out) Tryz.underlying47 rfl (by kernel_rfl)) rfl ?_
   exact ⟨by first | rfl | (simp [errW_none, errW_some] <;> rfl) | (simp [*, errW_none, errW_some] <;> rfl), by repeat (first | (with_reducible first | exact HB.out | apply below_alloc | apply pw_below_drewN | apply below_drew1 | refine below_set ?_ GE331.out | refine below_set ?_ GE332.out | refine below_set ?_ GE333.out | refine below_set ?_ GE334.out) | exact HB.out)⟩

end Go.Proofs.YtiehbagnebjadaaGreatDoor.Q
