-- Written by wip/mk.py of this repository (a run of the kit's print with hand-proved leaves added); Lean checks it.
import Derived.Test.YtiehbagnebjadaaGreatDoorQx0
import Derived.Test.YtiehbagnebjadaaGreatDoorQx2
import Derived.Test.YtiehbagnebjadaaGreatDoorQx4
import Derived.Test.YtiehbagnebjadaaGreatDoorQx5
namespace Go.Proofs.YtiehbagnebjadaaGreatDoor.Q
open Go.RowKit Go.Proofs.YtiehbagnebjadaaGreatDoorW.PrintWords Go.Proofs.YtiehbagnebjadaaGreatDoorW.PrintLast Go.Proofs.YtiehbagnebjadaaGreatDoorW.PrintMore
attribute [local go_sem] max2_int min2_int max_two min_two max_three min_three max_four min_four   -- for this text's walks alone
set_option linter.unusedVariables false
set_option linter.unusedSimpArgs false

/-! ### impl_DevelopSheet: function 33 -/
def impl_DevelopSheet.f (n : Nat) (p : Int) (k : Int) (c : Int) (d : Int) (v : Int) (u : Int) (g : Int) (a2 : Int) : Option (Int × Int × Int × Int) := (impl_ValidBath.f p k c d v u g).bind fun t1 => if t1 = true then ((impl_isArea.f a2).bind fun t2 => if t2 = true then ((impl_Bath_strength.f v u g p k c d).bind fun t3 => (impl_slower.f n t3).bind fun t4 => (impl_areThirds.f t4).bind fun t5 => if t5 = true then ((impl_checked.f p k c d v (wrap64 (u + a2)) g 4).bind fun b => some (b.1, b.2.1, b.2.2.1, b.2.2.2)) else some (0, 0, 0, 4)) else some (0, 0, 0, 2)) else some (0, 0, 0, 1)
theorem impl_DevelopSheet.mono : ∀ a0 a1 a2 a3 a4 a5 a6 a7 k, LeO (impl_DevelopSheet.f k a0 a1 a2 a3 a4 a5 a6 a7) (impl_DevelopSheet.f (k + 1) a0 a1 a2 a3 a4 a5 a6 a7) := by
 intro a0 a1 a2 a3 a4 a5 a6 a7 k
 unfold impl_DevelopSheet.f
 repeat' first
 | (with_reducible exact impl_slower.mono _ _)
 | (with_reducible exact LeO.refl _)
 | (with_reducible refine LeO.ite ?_ ?_)
 | (with_reducible refine LeO.bind ?_ (fun _ => ?_))
set_option maxHeartbeats 8000000 in
set_option maxRecDepth 100000 in
theorem impl_DevelopSheet.calls (n : Nat) (p : Int) (k : Int) (c : Int) (d : Int) (v : Int) (u : Int) (g : Int) (a2 : Int) (r1 : Int) (r2 : Int) (r3 : Int) (r4 : Int) (w : World) (h : impl_DevelopSheet.f n p k c d v u g a2 = some (r1, r2, r3, r4)) :
  Calls Tryz.prog 33 #[.agg #[.int .i64 p, .int .i64 k, .int .i8 c, .int .i8 d], .agg #[.int .i64 v, .int .i64 u, .int .i64 g], .int .i64 a2] w fun e w' => e = .returned (.tuple #[.agg #[.int .i64 r1, .int .i64 r2, .int .i64 r3], .int .i64 r4]) ∧ Below w.heap.size w w' := by
 have H' := Aside0.mk (show impl_DevelopSheet.f n p k c d v u g a2 = some (r1, r2, r3, r4) from h)
 clear h
 have HD := Aside0.mk (show HBx (((w.alloc (.cells ([.int .i64 p, .int .i64 k, .int .i8 c, .int .i8 d] : List Value).toArray 45)).alloc (.cells ([.int .i64 v, .int .i64 u, .int .i64 g] : List Value).toArray 47)).alloc (.cells ([.int .i64 0, .int .i64 0, .int .i64 0] : List Value).toArray 47)) w.heap.size 45 [.int .i64 p, .int .i64 k, .int .i8 c, .int .i8 d] from alloc3_0 _ _ _ _)
 have HB := Aside0.mk (show HBx (((w.alloc (.cells ([.int .i64 p, .int .i64 k, .int .i8 c, .int .i8 d] : List Value).toArray 45)).alloc (.cells ([.int .i64 v, .int .i64 u, .int .i64 g] : List Value).toArray 47)).alloc (.cells ([.int .i64 0, .int .i64 0, .int .i64 0] : List Value).toArray 47)) (w.heap.size + 1) 47 [.int .i64 v, .int .i64 u, .int .i64 g] from alloc3_1 _ _ _ _)
 have HR := Aside0.mk (show HBx (((w.alloc (.cells ([.int .i64 p, .int .i64 k, .int .i8 c, .int .i8 d] : List Value).toArray 45)).alloc (.cells ([.int .i64 v, .int .i64 u, .int .i64 g] : List Value).toArray 47)).alloc (.cells ([.int .i64 0, .int .i64 0, .int .i64 0] : List Value).toArray 47)) (w.heap.size + 2) 47 [.int .i64 0, .int .i64 0, .int .i64 0] from alloc3_2 _ _ _ _)
 have HL := Aside0.mk (alloc3_below w (.cells ([.int .i64 p, .int .i64 k, .int .i8 c, .int .i8 d] : List Value).toArray 45) (.cells ([.int .i64 v, .int .i64 u, .int .i64 g] : List Value).toArray 47) (.cells ([.int .i64 0, .int .i64 0, .int .i64 0] : List Value).toArray 47))
 have H := H'.out
 clear H'
 unfold impl_DevelopSheet.f at H
 go_enter Tryz.func33, Tryz.ntmps33
 obtain ⟨t1, e1, H⟩ := Option.bind_eq_some_iff.mp H
 have E1 := Aside0.mk e1
 clear e1
 have H' := Aside0.mk H
 clear H
 go_wp2_with (first | (refine hx_load rfl 45 _ rfl w.heap.size rfl 45 [.int .i64 p, .int .i64 k, .int .i8 c, .int .i8 d] HD.out _ Tryz.underlying45 rfl (by kernel_rfl) ?_) | (refine hx_load rfl 47 _ rfl (w.heap.size + 1) rfl 47 [.int .i64 v, .int .i64 u, .int .i64 g] HB.out _ Tryz.underlying47 rfl (by kernel_rfl) ?_))
 refine (impl_ValidBath.calls p k c d v u g t1 _ E1.out).mono ?_
 rintro e w1 ⟨rfl, hb⟩
 have HD1 := Aside0.mk (HD.out.below hb)
 have HB1 := Aside0.mk (HB.out.below hb)
 have HR1 := Aside0.mk (HR.out.below hb)
 have HL1 := Aside0.mk (below_step HL.out hb)
 clear hb HD HB HR HL
 have H := H'.out
 clear H'
 cases t1 with
 | false =>
  simp only [Bool.false_eq_true, if_false, Option.some.injEq, Prod.mk.injEq] at H
  obtain ⟨rfl, rfl, rfl, rfl⟩ := H
  go_wp2_with (first | (refine hx_store rfl 47 _ _ rfl (w.heap.size + 2) [.int .i64 0, .int .i64 0, .int .i64 0] rfl rfl 47 [.int .i64 0, .int .i64 0, .int .i64 0] HR1.out (by kernel_rfl) rfl (by rfl) ?_) | (refine hx_load rfl 45 _ rfl w.heap.size rfl 45 [.int .i64 p, .int .i64 k, .int .i8 c, .int .i8 d] HD1.out _ Tryz.underlying45 rfl (by kernel_rfl) ?_) | (refine hx_load rfl 47 _ rfl (w.heap.size + 1) rfl 47 [.int .i64 v, .int .i64 u, .int .i64 g] HB1.out _ Tryz.underlying47 rfl (by kernel_rfl) ?_))
  refine bodyPost_ret (results_ct rfl _ _ (w.heap.size + 2) 47 ([.int .i64 0, .int .i64 0, .int .i64 0] : List Value).toArray (0, 0) _ rfl (HR1.out.row [.int .i64 0, .int .i64 0, .int .i64 0]) Tryz.underlying47 rfl (by kernel_rfl)) rfl ?_
  exact ⟨rfl, hx_below HL1.out (by omega) _⟩
 | true =>
  rw [if_pos rfl] at H
  obtain ⟨t2, e2, H⟩ := Option.bind_eq_some_iff.mp H
  have E2 := Aside0.mk e2
  clear e2
  have H' := Aside0.mk H
  clear H
  go_wp2_with (first | (refine hx_load rfl 45 _ rfl w.heap.size rfl 45 [.int .i64 p, .int .i64 k, .int .i8 c, .int .i8 d] HD1.out _ Tryz.underlying45 rfl (by kernel_rfl) ?_) | (refine hx_load rfl 47 _ rfl (w.heap.size + 1) rfl 47 [.int .i64 v, .int .i64 u, .int .i64 g] HB1.out _ Tryz.underlying47 rfl (by kernel_rfl) ?_))
  refine (impl_isArea.calls a2 t2 _ E2.out).mono ?_
  rintro e w2 ⟨rfl, hb⟩
  replace hb := hb.below
  have HD2 := Aside0.mk (HD1.out.below hb)
  have HB2 := Aside0.mk (HB1.out.below hb)
  have HR2 := Aside0.mk (HR1.out.below hb)
  have HL2 := Aside0.mk (below_step HL1.out hb)
  clear hb HD1 HB1 HR1 HL1
  have H := H'.out
  clear H'
  cases t2 with
  | false =>
   simp only [Bool.false_eq_true, if_false, Option.some.injEq, Prod.mk.injEq] at H
   obtain ⟨rfl, rfl, rfl, rfl⟩ := H
   go_wp2_with (first | (refine hx_store rfl 47 _ _ rfl (w.heap.size + 2) [.int .i64 0, .int .i64 0, .int .i64 0] rfl rfl 47 [.int .i64 0, .int .i64 0, .int .i64 0] HR2.out (by kernel_rfl) rfl (by rfl) ?_) | (refine hx_load rfl 45 _ rfl w.heap.size rfl 45 [.int .i64 p, .int .i64 k, .int .i8 c, .int .i8 d] HD2.out _ Tryz.underlying45 rfl (by kernel_rfl) ?_) | (refine hx_load rfl 47 _ rfl (w.heap.size + 1) rfl 47 [.int .i64 v, .int .i64 u, .int .i64 g] HB2.out _ Tryz.underlying47 rfl (by kernel_rfl) ?_))
   refine bodyPost_ret (results_ct rfl _ _ (w.heap.size + 2) 47 ([.int .i64 0, .int .i64 0, .int .i64 0] : List Value).toArray (0, 0) _ rfl (HR2.out.row [.int .i64 0, .int .i64 0, .int .i64 0]) Tryz.underlying47 rfl (by kernel_rfl)) rfl ?_
   exact ⟨rfl, hx_below HL2.out (by omega) _⟩
  | true =>
   rw [if_pos rfl] at H
   obtain ⟨t3, e3, H⟩ := Option.bind_eq_some_iff.mp H
   have E3 := Aside0.mk e3
   clear e3
   have H' := Aside0.mk H
   clear H
   go_wp2_with (first | (refine hx_load rfl 45 _ rfl w.heap.size rfl 45 [.int .i64 p, .int .i64 k, .int .i8 c, .int .i8 d] HD2.out _ Tryz.underlying45 rfl (by kernel_rfl) ?_) | (refine hx_load rfl 47 _ rfl (w.heap.size + 1) rfl 47 [.int .i64 v, .int .i64 u, .int .i64 g] HB2.out _ Tryz.underlying47 rfl (by kernel_rfl) ?_))
   refine (impl_Bath_strength.calls v u g p k c d t3 _ E3.out).mono ?_
   rintro e w3 ⟨rfl, hb⟩
   have HD3 := Aside0.mk (HD2.out.below hb)
   have HB3 := Aside0.mk (HB2.out.below hb)
   have HR3 := Aside0.mk (HR2.out.below hb)
   have HL3 := Aside0.mk (below_step HL2.out hb)
   clear hb HD2 HB2 HR2 HL2
   have H := H'.out
   clear H'
   obtain ⟨t4, e4, H⟩ := Option.bind_eq_some_iff.mp H
   have E4 := Aside0.mk e4
   clear e4
   have H' := Aside0.mk H
   clear H
   go_wp2_with (first | (refine hx_load rfl 45 _ rfl w.heap.size rfl 45 [.int .i64 p, .int .i64 k, .int .i8 c, .int .i8 d] HD3.out _ Tryz.underlying45 rfl (by kernel_rfl) ?_) | (refine hx_load rfl 47 _ rfl (w.heap.size + 1) rfl 47 [.int .i64 v, .int .i64 u, .int .i64 g] HB3.out _ Tryz.underlying47 rfl (by kernel_rfl) ?_))
   refine (impl_slower.calls n t3 t4 _ E4.out).mono ?_
   rintro e w4 ⟨rfl, hb⟩
   replace hb := hb.below
   have HD4 := Aside0.mk (HD3.out.below hb)
   have HB4 := Aside0.mk (HB3.out.below hb)
   have HR4 := Aside0.mk (HR3.out.below hb)
   have HL4 := Aside0.mk (below_step HL3.out hb)
   clear hb HD3 HB3 HR3 HL3
   have H := H'.out
   clear H'
   obtain ⟨t5, e5, H⟩ := Option.bind_eq_some_iff.mp H
   have E5 := Aside0.mk e5
   clear e5
   have H' := Aside0.mk H
   clear H
   go_wp2_with (first | (refine hx_load rfl 45 _ rfl w.heap.size rfl 45 [.int .i64 p, .int .i64 k, .int .i8 c, .int .i8 d] HD4.out _ Tryz.underlying45 rfl (by kernel_rfl) ?_) | (refine hx_load rfl 47 _ rfl (w.heap.size + 1) rfl 47 [.int .i64 v, .int .i64 u, .int .i64 g] HB4.out _ Tryz.underlying47 rfl (by kernel_rfl) ?_))
   refine (impl_areThirds.calls t4 t5 _ E5.out).mono ?_
   rintro e w5 ⟨rfl, hb⟩
   replace hb := hb.below
   have HD5 := Aside0.mk (HD4.out.below hb)
   have HB5 := Aside0.mk (HB4.out.below hb)
   have HR5 := Aside0.mk (HR4.out.below hb)
   have HL5 := Aside0.mk (below_step HL4.out hb)
   clear hb HD4 HB4 HR4 HL4
   have H := H'.out
   clear H'
   cases t5 with
   | false =>
    simp only [Bool.false_eq_true, if_false, Option.some.injEq, Prod.mk.injEq] at H
    obtain ⟨rfl, rfl, rfl, rfl⟩ := H
    go_wp2_with (first | (refine hx_store rfl 47 _ _ rfl (w.heap.size + 2) [.int .i64 0, .int .i64 0, .int .i64 0] rfl rfl 47 [.int .i64 0, .int .i64 0, .int .i64 0] HR5.out (by kernel_rfl) rfl (by rfl) ?_) | (refine hx_load rfl 45 _ rfl w.heap.size rfl 45 [.int .i64 p, .int .i64 k, .int .i8 c, .int .i8 d] HD5.out _ Tryz.underlying45 rfl (by kernel_rfl) ?_) | (refine hx_load rfl 47 _ rfl (w.heap.size + 1) rfl 47 [.int .i64 v, .int .i64 u, .int .i64 g] HB5.out _ Tryz.underlying47 rfl (by kernel_rfl) ?_))
    refine bodyPost_ret (results_ct rfl _ _ (w.heap.size + 2) 47 ([.int .i64 0, .int .i64 0, .int .i64 0] : List Value).toArray (0, 0) _ rfl (HR5.out.row [.int .i64 0, .int .i64 0, .int .i64 0]) Tryz.underlying47 rfl (by kernel_rfl)) rfl ?_
    exact ⟨rfl, hx_below HL5.out (by omega) _⟩
   | true =>
    rw [if_pos rfl] at H
    have hc := HB5.out.cell 1 (v := .int .i64 u) rfl
    have hf := HB5.out.frozen 1
    have HDs := Aside0.mk (HD5.out.setOther (c := w.heap.size + 1) (by omega) 1 (.int .i64 (wrap64 (u + a2))))
    have HRs := Aside0.mk (HR5.out.setOther (c := w.heap.size + 1) (by omega) 1 (.int .i64 (wrap64 (u + a2))))
    have HBs := Aside0.mk (show HBx _ (w.heap.size + 1) 47 [.int .i64 v, .int .i64 (wrap64 (u + a2)), .int .i64 g] from HB5.out.set 1 (.int .i64 (wrap64 (u + a2))))
    have HLs := Aside0.mk (below_set (g := w.heap.size + 1) (j := 1) (v := .int .i64 (wrap64 (u + a2))) HL5.out (by omega))
    clear HD5 HB5 HR5 HL5
    obtain ⟨⟨x1, x2, x3, x4⟩, e6, H⟩ := Option.bind_eq_some_iff.mp H
    have E6 := Aside0.mk e6
    clear e6
    have H' := Aside0.mk H
    clear H
    go_wp2_with (first | (refine hx_load rfl 45 _ rfl w.heap.size rfl 45 [.int .i64 p, .int .i64 k, .int .i8 c, .int .i8 d] HDs.out _ Tryz.underlying45 rfl (by kernel_rfl) ?_) | (refine hx_load rfl 47 _ rfl (w.heap.size + 1) rfl 47 [.int .i64 v, .int .i64 (wrap64 (u + a2)), .int .i64 g] HBs.out _ Tryz.underlying47 rfl (by kernel_rfl) ?_))
    refine (impl_checked.calls p k c d v (wrap64 (u + a2)) g 4 x1 x2 x3 x4 _ E6.out).mono ?_
    rintro e w6 ⟨rfl, hb⟩
    have HD6 := Aside0.mk (HDs.out.below hb)
    have HB6 := Aside0.mk (HBs.out.below hb)
    have HR6 := Aside0.mk (HRs.out.below hb)
    have HL6 := Aside0.mk (below_step HLs.out hb)
    clear hb HDs HBs HRs HLs
    have H := H'.out
    clear H'
    simp only [Option.some.injEq, Prod.mk.injEq] at H
    obtain ⟨rfl, rfl, rfl, rfl⟩ := H
    go_wp2_with (first | (refine hx_store rfl 47 _ _ rfl (w.heap.size + 2) [.int .i64 x1, .int .i64 x2, .int .i64 x3] rfl rfl 47 [.int .i64 0, .int .i64 0, .int .i64 0] HR6.out (by kernel_rfl) rfl (by rfl) ?_) | (refine hx_load rfl 45 _ rfl w.heap.size rfl 45 [.int .i64 p, .int .i64 k, .int .i8 c, .int .i8 d] HD6.out _ Tryz.underlying45 rfl (by kernel_rfl) ?_) | (refine hx_load rfl 47 _ rfl (w.heap.size + 1) rfl 47 [.int .i64 v, .int .i64 (wrap64 (u + a2)), .int .i64 g] HB6.out _ Tryz.underlying47 rfl (by kernel_rfl) ?_))
    refine bodyPost_ret (results_ct rfl _ _ (w.heap.size + 2) 47 ([.int .i64 x1, .int .i64 x2, .int .i64 x3] : List Value).toArray (0, 0) _ rfl (HR6.out.row [.int .i64 x1, .int .i64 x2, .int .i64 x3]) Tryz.underlying47 rfl (by kernel_rfl)) rfl ?_
    exact ⟨rfl, hx_below HL6.out (by omega) _⟩


/-! ### impl_RestBath: function 34 -/
def impl_RestBath.f (p : Int) (k : Int) (c : Int) (d : Int) (v : Int) (u : Int) (g : Int) (a2 : Int) : Option (Int × Int × Int × Int) := (impl_ValidBath.f p k c d v u g).bind fun t1 => if t1 = true then ((impl_within.f a2 0 100000).bind fun t2 => if t2 = true then ((impl_checked.f p k c d v u (wrap64 (g + a2)) 4).bind fun b => some (b.1, b.2.1, b.2.2.1, b.2.2.2)) else some (0, 0, 0, 2)) else some (0, 0, 0, 1)
set_option maxHeartbeats 8000000 in
set_option maxRecDepth 100000 in
theorem impl_RestBath.calls (p : Int) (k : Int) (c : Int) (d : Int) (v : Int) (u : Int) (g : Int) (a2 : Int) (r1 : Int) (r2 : Int) (r3 : Int) (r4 : Int) (w : World) (h : impl_RestBath.f p k c d v u g a2 = some (r1, r2, r3, r4)) :
  Calls Tryz.prog 34 #[.agg #[.int .i64 p, .int .i64 k, .int .i8 c, .int .i8 d], .agg #[.int .i64 v, .int .i64 u, .int .i64 g], .int .i64 a2] w fun e w' => e = .returned (.tuple #[.agg #[.int .i64 r1, .int .i64 r2, .int .i64 r3], .int .i64 r4]) ∧ Below w.heap.size w w' := by
 have H' := Aside0.mk (show impl_RestBath.f p k c d v u g a2 = some (r1, r2, r3, r4) from h)
 clear h
 have HD := Aside0.mk (show HBx (((w.alloc (.cells ([.int .i64 p, .int .i64 k, .int .i8 c, .int .i8 d] : List Value).toArray 45)).alloc (.cells ([.int .i64 v, .int .i64 u, .int .i64 g] : List Value).toArray 47)).alloc (.cells ([.int .i64 0, .int .i64 0, .int .i64 0] : List Value).toArray 47)) w.heap.size 45 [.int .i64 p, .int .i64 k, .int .i8 c, .int .i8 d] from alloc3_0 _ _ _ _)
 have HB := Aside0.mk (show HBx (((w.alloc (.cells ([.int .i64 p, .int .i64 k, .int .i8 c, .int .i8 d] : List Value).toArray 45)).alloc (.cells ([.int .i64 v, .int .i64 u, .int .i64 g] : List Value).toArray 47)).alloc (.cells ([.int .i64 0, .int .i64 0, .int .i64 0] : List Value).toArray 47)) (w.heap.size + 1) 47 [.int .i64 v, .int .i64 u, .int .i64 g] from alloc3_1 _ _ _ _)
 have HR := Aside0.mk (show HBx (((w.alloc (.cells ([.int .i64 p, .int .i64 k, .int .i8 c, .int .i8 d] : List Value).toArray 45)).alloc (.cells ([.int .i64 v, .int .i64 u, .int .i64 g] : List Value).toArray 47)).alloc (.cells ([.int .i64 0, .int .i64 0, .int .i64 0] : List Value).toArray 47)) (w.heap.size + 2) 47 [.int .i64 0, .int .i64 0, .int .i64 0] from alloc3_2 _ _ _ _)
 have HL := Aside0.mk (alloc3_below w (.cells ([.int .i64 p, .int .i64 k, .int .i8 c, .int .i8 d] : List Value).toArray 45) (.cells ([.int .i64 v, .int .i64 u, .int .i64 g] : List Value).toArray 47) (.cells ([.int .i64 0, .int .i64 0, .int .i64 0] : List Value).toArray 47))
 have H := H'.out
 clear H'
 unfold impl_RestBath.f at H
 go_enter Tryz.func34, Tryz.ntmps34
 obtain ⟨t1, e1, H⟩ := Option.bind_eq_some_iff.mp H
 have E1 := Aside0.mk e1
 clear e1
 have H' := Aside0.mk H
 clear H
 go_wp2_with (first | (refine hx_load rfl 45 _ rfl w.heap.size rfl 45 [.int .i64 p, .int .i64 k, .int .i8 c, .int .i8 d] HD.out _ Tryz.underlying45 rfl (by kernel_rfl) ?_) | (refine hx_load rfl 47 _ rfl (w.heap.size + 1) rfl 47 [.int .i64 v, .int .i64 u, .int .i64 g] HB.out _ Tryz.underlying47 rfl (by kernel_rfl) ?_))
 refine (impl_ValidBath.calls p k c d v u g t1 _ E1.out).mono ?_
 rintro e w1 ⟨rfl, hb⟩
 have HD1 := Aside0.mk (HD.out.below hb)
 have HB1 := Aside0.mk (HB.out.below hb)
 have HR1 := Aside0.mk (HR.out.below hb)
 have HL1 := Aside0.mk (below_step HL.out hb)
 clear hb HD HB HR HL
 have H := H'.out
 clear H'
 cases t1 with
 | false =>
  simp only [Bool.false_eq_true, if_false, Option.some.injEq, Prod.mk.injEq] at H
  obtain ⟨rfl, rfl, rfl, rfl⟩ := H
  go_wp2_with (first | (refine hx_store rfl 47 _ _ rfl (w.heap.size + 2) [.int .i64 0, .int .i64 0, .int .i64 0] rfl rfl 47 [.int .i64 0, .int .i64 0, .int .i64 0] HR1.out (by kernel_rfl) rfl (by rfl) ?_) | (refine hx_load rfl 45 _ rfl w.heap.size rfl 45 [.int .i64 p, .int .i64 k, .int .i8 c, .int .i8 d] HD1.out _ Tryz.underlying45 rfl (by kernel_rfl) ?_) | (refine hx_load rfl 47 _ rfl (w.heap.size + 1) rfl 47 [.int .i64 v, .int .i64 u, .int .i64 g] HB1.out _ Tryz.underlying47 rfl (by kernel_rfl) ?_))
  refine bodyPost_ret (results_ct rfl _ _ (w.heap.size + 2) 47 ([.int .i64 0, .int .i64 0, .int .i64 0] : List Value).toArray (0, 0) _ rfl (HR1.out.row [.int .i64 0, .int .i64 0, .int .i64 0]) Tryz.underlying47 rfl (by kernel_rfl)) rfl ?_
  exact ⟨rfl, hx_below HL1.out (by omega) _⟩
 | true =>
  rw [if_pos rfl] at H
  obtain ⟨t2, e2, H⟩ := Option.bind_eq_some_iff.mp H
  have E2 := Aside0.mk e2
  clear e2
  have H' := Aside0.mk H
  clear H
  go_wp2_with (first | (refine hx_load rfl 45 _ rfl w.heap.size rfl 45 [.int .i64 p, .int .i64 k, .int .i8 c, .int .i8 d] HD1.out _ Tryz.underlying45 rfl (by kernel_rfl) ?_) | (refine hx_load rfl 47 _ rfl (w.heap.size + 1) rfl 47 [.int .i64 v, .int .i64 u, .int .i64 g] HB1.out _ Tryz.underlying47 rfl (by kernel_rfl) ?_))
  refine (impl_within.calls a2 0 100000 t2 _ E2.out).mono ?_
  rintro e w2 ⟨rfl, hb⟩
  replace hb := hb.below
  have HD2 := Aside0.mk (HD1.out.below hb)
  have HB2 := Aside0.mk (HB1.out.below hb)
  have HR2 := Aside0.mk (HR1.out.below hb)
  have HL2 := Aside0.mk (below_step HL1.out hb)
  clear hb HD1 HB1 HR1 HL1
  have H := H'.out
  clear H'
  cases t2 with
  | false =>
   simp only [Bool.false_eq_true, if_false, Option.some.injEq, Prod.mk.injEq] at H
   obtain ⟨rfl, rfl, rfl, rfl⟩ := H
   go_wp2_with (first | (refine hx_store rfl 47 _ _ rfl (w.heap.size + 2) [.int .i64 0, .int .i64 0, .int .i64 0] rfl rfl 47 [.int .i64 0, .int .i64 0, .int .i64 0] HR2.out (by kernel_rfl) rfl (by rfl) ?_) | (refine hx_load rfl 45 _ rfl w.heap.size rfl 45 [.int .i64 p, .int .i64 k, .int .i8 c, .int .i8 d] HD2.out _ Tryz.underlying45 rfl (by kernel_rfl) ?_) | (refine hx_load rfl 47 _ rfl (w.heap.size + 1) rfl 47 [.int .i64 v, .int .i64 u, .int .i64 g] HB2.out _ Tryz.underlying47 rfl (by kernel_rfl) ?_))
   refine bodyPost_ret (results_ct rfl _ _ (w.heap.size + 2) 47 ([.int .i64 0, .int .i64 0, .int .i64 0] : List Value).toArray (0, 0) _ rfl (HR2.out.row [.int .i64 0, .int .i64 0, .int .i64 0]) Tryz.underlying47 rfl (by kernel_rfl)) rfl ?_
   exact ⟨rfl, hx_below HL2.out (by omega) _⟩
  | true =>
   rw [if_pos rfl] at H
   have hc := HB2.out.cell 2 (v := .int .i64 g) rfl
   have hf := HB2.out.frozen 2
   have HDs := Aside0.mk (HD2.out.setOther (c := w.heap.size + 1) (by omega) 2 (.int .i64 (wrap64 (g + a2))))
   have HRs := Aside0.mk (HR2.out.setOther (c := w.heap.size + 1) (by omega) 2 (.int .i64 (wrap64 (g + a2))))
   have HBs := Aside0.mk (show HBx _ (w.heap.size + 1) 47 [.int .i64 v, .int .i64 u, .int .i64 (wrap64 (g + a2))] from HB2.out.set 2 (.int .i64 (wrap64 (g + a2))))
   have HLs := Aside0.mk (below_set (g := w.heap.size + 1) (j := 2) (v := .int .i64 (wrap64 (g + a2))) HL2.out (by omega))
   clear HD2 HB2 HR2 HL2
   obtain ⟨⟨x1, x2, x3, x4⟩, e3, H⟩ := Option.bind_eq_some_iff.mp H
   have E3 := Aside0.mk e3
   clear e3
   have H' := Aside0.mk H
   clear H
   go_wp2_with (first | (refine hx_load rfl 45 _ rfl w.heap.size rfl 45 [.int .i64 p, .int .i64 k, .int .i8 c, .int .i8 d] HDs.out _ Tryz.underlying45 rfl (by kernel_rfl) ?_) | (refine hx_load rfl 47 _ rfl (w.heap.size + 1) rfl 47 [.int .i64 v, .int .i64 u, .int .i64 (wrap64 (g + a2))] HBs.out _ Tryz.underlying47 rfl (by kernel_rfl) ?_))
   refine (impl_checked.calls p k c d v u (wrap64 (g + a2)) 4 x1 x2 x3 x4 _ E3.out).mono ?_
   rintro e w3 ⟨rfl, hb⟩
   have HD3 := Aside0.mk (HDs.out.below hb)
   have HB3 := Aside0.mk (HBs.out.below hb)
   have HR3 := Aside0.mk (HRs.out.below hb)
   have HL3 := Aside0.mk (below_step HLs.out hb)
   clear hb HDs HBs HRs HLs
   have H := H'.out
   clear H'
   simp only [Option.some.injEq, Prod.mk.injEq] at H
   obtain ⟨rfl, rfl, rfl, rfl⟩ := H
   go_wp2_with (first | (refine hx_store rfl 47 _ _ rfl (w.heap.size + 2) [.int .i64 x1, .int .i64 x2, .int .i64 x3] rfl rfl 47 [.int .i64 0, .int .i64 0, .int .i64 0] HR3.out (by kernel_rfl) rfl (by rfl) ?_) | (refine hx_load rfl 45 _ rfl w.heap.size rfl 45 [.int .i64 p, .int .i64 k, .int .i8 c, .int .i8 d] HD3.out _ Tryz.underlying45 rfl (by kernel_rfl) ?_) | (refine hx_load rfl 47 _ rfl (w.heap.size + 1) rfl 47 [.int .i64 v, .int .i64 u, .int .i64 (wrap64 (g + a2))] HB3.out _ Tryz.underlying47 rfl (by kernel_rfl) ?_))
   refine bodyPost_ret (results_ct rfl _ _ (w.heap.size + 2) 47 ([.int .i64 x1, .int .i64 x2, .int .i64 x3] : List Value).toArray (0, 0) _ rfl (HR3.out.row [.int .i64 x1, .int .i64 x2, .int .i64 x3]) Tryz.underlying47 rfl (by kernel_rfl)) rfl ?_
   exact ⟨rfl, hx_below HL3.out (by omega) _⟩


/-! ### impl_Bath_replenished: function 99 -/
def impl_Bath_replenished.f (a0_0 : Int) (a0_1 : Int) (a0_2 : Int) (a1 : Int) : Option (Int × Int × Int) := if a0_0 = 0 then (none) else (some (a0_0, wrap64 (Int.tdiv (wrap64 (a0_1 * (wrap64 (a0_0 - a1)))) a0_0), wrap64 (Int.tdiv (wrap64 (a0_2 * (wrap64 (a0_0 - a1)))) a0_0)))
def impl_Bath_replenished.T2 : Bool × List (List Nat × List Nat) := (true, [([], []), ([0], [0]), ([], []), ([2], [2]), ([], []), ([3, 4], [3, 4]), ([], []), ([6], [6]), ([5, 7], [5, 7]), ([], []), ([9], [9]), ([], []), ([10, 11], [10, 11]), ([], []), ([13], [13]), ([12, 14], [12, 14]), ([1, 8, 15], [1, 8, 15]), ([16, 0, 1, 2, 3, 4, 5, 6, 7, 8, 9, 10, 11, 12, 13, 14, 15, 16], [16])])
def impl_Bath_replenished.B2 : List Nat := [0, 1, 0, 4, 0, 28, 0, 64, 252, 0, 512, 0, 3584, 0, 8192, 32256, 65535, 131071]
theorem impl_Bath_replenished.tab2 : rtab .any (opsOf Tryz.f99 2) = impl_Bath_replenished.T2 := by kernel_rfl
theorem impl_Bath_replenished.bits2 : waitsOk impl_Bath_replenished.T2.2 impl_Bath_replenished.B2 = true := by kernel_rfl
set_option maxHeartbeats 8000000 in
set_option maxRecDepth 100000 in
theorem impl_Bath_replenished.calls (a0_0 : Int) (a0_1 : Int) (a0_2 : Int) (a1 : Int) (r1 : Int) (r2 : Int) (r3 : Int) (w : World) (h : impl_Bath_replenished.f a0_0 a0_1 a0_2 a1 = some (r1, r2, r3)) :
  Calls Tryz.prog 99 #[.agg #[.int .i64 a0_0, .int .i64 a0_1, .int .i64 a0_2], .int .i64 a1] w fun e w' => e = .returned (.agg #[.int .i64 r1, .int .i64 r2, .int .i64 r3]) ∧ Below w.heap.size w w' := by
 have hu47 := Tryz.underlying47
 have HB := Aside0.mk (Below.refl w.heap.size w)
 have H : (if a0_0 = 0 then (none) else (some (a0_0, wrap64 (Int.tdiv (wrap64 (a0_1 * (wrap64 (a0_0 - a1)))) a0_0), wrap64 (Int.tdiv (wrap64 (a0_2 * (wrap64 (a0_0 - a1)))) a0_0)))) = some (r1, r2, r3) := h
 clear h
 by_cases c3 : a0_0 = 0
 ·rw [if_pos c3] at H
  exact absurd H (by simp)
 ·rw [if_neg c3] at H
  have c3b0 : (a0_0 == 0) = false := beq_eq_false_iff_ne.mpr c3
  have c3b1 : (a0_0 != 0) = true := bne_iff_ne.mpr c3
  simp only [Option.some.injEq, Prod.mk.injEq] at H
  obtain ⟨rfl, rfl, rfl⟩ := H
  go_enter Tryz.func99, Tryz.ntmps99
  try go_wp2_with (first | ((with_reducible refine gate_dst (N := 2) rfl ?_); refine box_event ?hg (N := 2) ?hd (cs := #[.int .i64 a0_0, .int .i64 a0_1, .int .i64 a0_2]) (t := 47) ?hr ?_; (case hd => rfl); (case hg => rfl); (case hr => first | (go_simp; done) | (go_simp; rfl)); intro gb250 hg w4 hbox hb; have n0_ := Aside0.mk (below_step HB.out hb); have n1_ := Aside0.mk (hbox); have n2_ := Aside0.mk ((by rw [hg]; exact (below_size HB.out) : w.heap.size ≤ gb250)); have n3_ := Aside0.mk ((by rw [hg]; exact (below_size HB.out) : w.heap.size ≤ gb250)); clear HB; have HB := n0_; have BK250 := n1_; have GW250 := n2_; have GE250 := n3_; clear n0_ n1_ n2_ n3_; clear hb hbox hg) | ((with_reducible refine gate_dst (N := 4) rfl ?_); refine box_event ?hg (N := 4) ?hd (cs := #[.int .i64 0, .int .i64 0, .int .i64 0]) (t := 47) ?hr ?_; (case hd => rfl); (case hg => rfl); (case hr => first | (go_simp; done) | (go_simp; rfl)); intro gb251 hg w5 hbox hb; have n0_ := Aside0.mk (blk_below BK250.out hb); have n1_ := Aside0.mk (below_step HB.out hb); have n2_ := Aside0.mk (hbox); have n3_ := Aside0.mk ((by rw [hg]; exact (below_size HB.out) : w.heap.size ≤ gb251)); have n4_ := Aside0.mk ((by rw [hg]; exact (below_size HB.out) : w.heap.size ≤ gb251)); have n5_ := Aside0.mk ((by rw [hg]; exact Nat.ne_of_lt (blk_lt BK250.out) : gb250 ≠ gb251)); have n6_ := Aside0.mk ((by rw [hg]; exact Nat.ne_of_gt (blk_lt BK250.out) : gb251 ≠ gb250)); clear BK250; clear HB; have BK250 := n0_; have HB := n1_; have BK251 := n2_; have GW251 := n3_; have GE251 := n4_; have NB250_251 := n5_; have NB251_250 := n6_; clear n0_ n1_ n2_ n3_ n4_ n5_ n6_; clear hb hbox hg; have hnb6 := NB250_251.out; have hnc6 := NB251_250.out; have hcz7_0 := blk_c BK250.out 0 rfl; have hcz7_1 := blk_c BK250.out 1 rfl; have hcz7_2 := blk_c BK250.out 2 rfl; have hfz7_0 := blk_frozen BK250.out 0; have hfz7_1 := blk_frozen BK250.out 1; have hfz7_2 := blk_frozen BK250.out 2))
  have n0_ := Aside0.mk (blk_drew BK250.out)
  have n1_ := Aside0.mk (blk_drew BK251.out)
  have n2_ := Aside0.mk (below_drew1 HB.out)
  clear BK250
  clear BK251
  clear HB
  have BK250 := n0_
  have BK251 := n1_
  have HB := n2_
  clear n0_ n1_ n2_
  refine start_ (n := 18) (S := fun w' => w'.cell? ⟨gb250, 0, none⟩ = some (.int .i64 a0_0) ∧ w'.cell? ⟨gb250, 1, none⟩ = some (.int .i64 a0_1) ∧ w'.cell? ⟨gb250, 2, none⟩ = some (.int .i64 a0_2)) (ds := []) #[false, false, false, false, false, false, false, false, false, false, false, false, false, false, false, false, false, false] (by kernel_rfl) rfl rfl ⟨(blk_cell BK250.out 0).trans rfl, (blk_cell BK250.out 1).trans rfl, (blk_cell BK250.out 2).trans rfl⟩ (fun hHeld => ?_); refine with_tabW impl_Bath_replenished.tab2 impl_Bath_replenished.bits2 (fun HT_ HW_ => ?_)
  generalize w5.drew = w8 at BK250 BK251 HB hHeld ⊢
  refine pure_ (i := 0) (N := some 10) (v := ?_) (a' := ?_) #[true, false, false, false, false, false, false, false, false, false, false, false, false, false, false, false, false, false] rfl rfl (any_of HT_.out (by kernel_rfl)) (fun _ _ _ h => h) (Or.inl ⟨by rfl, ?_⟩) ?_ ?_
  rotate_left
  ·intro w'
   go_simp
   with_reducible rfl
  rotate_left
  ·simp only [Act.put, List.setIfInBounds_toArray, List.set_cons_zero, List.set_cons_succ, i64_w, i32_w]
   rfl
  refine pure_ (i := 2) (N := some 12) (v := ?_) (a' := ?_) #[true, false, true, false, false, false, false, false, false, false, false, false, false, false, false, false, false, false] rfl rfl (any_of HT_.out (by kernel_rfl)) (fun _ _ _ h => h) (Or.inl ⟨by rfl, ?_⟩) ?_ ?_
  rotate_left
  ·intro w'
   go_simp
   with_reducible rfl
  rotate_left
  ·simp only [Act.put, List.setIfInBounds_toArray, List.set_cons_zero, List.set_cons_succ, i64_w, i32_w]
   rfl
  refine pure_ (i := 4) (N := some 14) (v := ?_) (a' := ?_) #[true, false, true, false, true, false, false, false, false, false, false, false, false, false, false, false, false, false] rfl rfl (any_of HT_.out (by kernel_rfl)) (fun _ _ _ h => h) (Or.inl ⟨by rfl, ?_⟩) ?_ ?_
  rotate_left
  ·intro w'
   go_simp
   with_reducible rfl
  rotate_left
  ·simp only [Act.put, List.setIfInBounds_toArray, List.set_cons_zero, List.set_cons_succ, i64_w, i32_w]
   rfl
  refine pure_ (i := 6) (N := some 16) (v := ?_) (a' := ?_) #[true, false, true, false, true, false, true, false, false, false, false, false, false, false, false, false, false, false] rfl rfl (any_of HT_.out (by kernel_rfl)) (fun _ _ _ h => h) (Or.inl ⟨by rfl, ?_⟩) ?_ ?_
  rotate_left
  ·intro w'
   go_simp
   with_reducible rfl
  rotate_left
  ·simp only [Act.put, List.setIfInBounds_toArray, List.set_cons_zero, List.set_cons_succ, i64_w, i32_w]
   rfl
  refine pure_ (i := 9) (N := some 19) (v := ?_) (a' := ?_) #[true, false, true, false, true, false, true, false, false, true, false, false, false, false, false, false, false, false] rfl rfl (any_of HT_.out (by kernel_rfl)) (fun _ _ _ h => h) (Or.inl ⟨by rfl, ?_⟩) ?_ ?_
  rotate_left
  ·intro w'
   go_simp
   with_reducible rfl
  rotate_left
  ·simp only [Act.put, List.setIfInBounds_toArray, List.set_cons_zero, List.set_cons_succ, i64_w, i32_w]
   rfl
  refine pure_ (i := 11) (N := some 21) (v := ?_) (a' := ?_) #[true, false, true, false, true, false, true, false, false, true, false, true, false, false, false, false, false, false] rfl rfl (any_of HT_.out (by kernel_rfl)) (fun _ _ _ h => h) (Or.inl ⟨by rfl, ?_⟩) ?_ ?_
  rotate_left
  ·intro w'
   go_simp
   with_reducible rfl
  rotate_left
  ·simp only [Act.put, List.setIfInBounds_toArray, List.set_cons_zero, List.set_cons_succ, i64_w, i32_w]
   rfl
  refine pure_ (i := 13) (N := some 23) (v := ?_) (a' := ?_) #[true, false, true, false, true, false, true, false, false, true, false, true, false, true, false, false, false, false] rfl rfl (any_of HT_.out (by kernel_rfl)) (fun _ _ _ h => h) (Or.inl ⟨by rfl, ?_⟩) ?_ ?_
  rotate_left
  ·intro w'
   go_simp
   with_reducible rfl
  rotate_left
  ·simp only [Act.put, List.setIfInBounds_toArray, List.set_cons_zero, List.set_cons_succ, i64_w, i32_w]
   rfl
  refine take_ (i := 1) (N := some 11) (v := ?_) (a' := ?_) #[true, true, true, false, true, false, true, false, false, true, false, true, false, true, false, false, false, false] rfl rfl (take_ofW HT_.out HW_.out (by kernel_rfl)) (fun _ _ _ h => h) (Or.inl ⟨by rfl, ?_⟩) hHeld ?_ ?_
  rotate_left
  ·rintro w' ⟨s0, s1, s2⟩
   go_simp
   with_reducible rfl
  rotate_left
  ·simp only [Act.put, List.setIfInBounds_toArray, List.set_cons_zero, List.set_cons_succ, i64_w, i32_w]
   rfl
  refine take_ (i := 3) (N := some 13) (v := ?_) (a' := ?_) #[true, true, true, true, true, false, true, false, false, true, false, true, false, true, false, false, false, false] rfl rfl (take_ofW HT_.out HW_.out (by kernel_rfl)) (fun _ _ _ h => h) (Or.inl ⟨by rfl, ?_⟩) hHeld ?_ ?_
  rotate_left
  ·rintro w' ⟨s0, s1, s2⟩
   go_simp
   with_reducible rfl
  rotate_left
  ·simp only [Act.put, List.setIfInBounds_toArray, List.set_cons_zero, List.set_cons_succ, i64_w, i32_w]
   rfl
  refine pure_ (i := 5) (N := some 15) (v := ?_) (a' := ?_) #[true, true, true, true, true, true, true, false, false, true, false, true, false, true, false, false, false, false] rfl rfl (any_of HT_.out (by kernel_rfl)) (fun _ _ _ h => h) (Or.inl ⟨by rfl, ?_⟩) ?_ ?_
  rotate_left
  ·intro w'
   go_simp
   with_reducible rfl
  rotate_left
  ·simp only [Act.put, List.setIfInBounds_toArray, List.set_cons_zero, List.set_cons_succ, i64_w, i32_w]
   rfl
  refine take_ (i := 7) (N := some 17) (v := ?_) (a' := ?_) #[true, true, true, true, true, true, true, true, false, true, false, true, false, true, false, false, false, false] rfl rfl (take_ofW HT_.out HW_.out (by kernel_rfl)) (fun _ _ _ h => h) (Or.inl ⟨by rfl, ?_⟩) hHeld ?_ ?_
  rotate_left
  ·rintro w' ⟨s0, s1, s2⟩
   go_simp
   with_reducible rfl
  rotate_left
  ·simp only [Act.put, List.setIfInBounds_toArray, List.set_cons_zero, List.set_cons_succ, i64_w, i32_w]
   rfl
  refine pure_ (i := 8) (N := some 18) (v := ?_) (a' := ?_) #[true, true, true, true, true, true, true, true, true, true, false, true, false, true, false, false, false, false] rfl rfl (any_of HT_.out (by kernel_rfl)) (fun _ _ _ h => h) (Or.inl ⟨by rfl, ?_⟩) ?_ ?_
  rotate_left
  ·intro w'
   go_simp
   with_reducible rfl
  rotate_left
  ·simp only [Act.put, List.setIfInBounds_toArray, List.set_cons_zero, List.set_cons_succ, i64_w, i32_w]
   rfl
  refine take_ (i := 10) (N := some 20) (v := ?_) (a' := ?_) #[true, true, true, true, true, true, true, true, true, true, true, true, false, true, false, false, false, false] rfl rfl (take_ofW HT_.out HW_.out (by kernel_rfl)) (fun _ _ _ h => h) (Or.inl ⟨by rfl, ?_⟩) hHeld ?_ ?_
  rotate_left
  ·rintro w' ⟨s0, s1, s2⟩
   go_simp
   with_reducible rfl
  rotate_left
  ·simp only [Act.put, List.setIfInBounds_toArray, List.set_cons_zero, List.set_cons_succ, i64_w, i32_w]
   rfl
  refine pure_ (i := 12) (N := some 22) (v := ?_) (a' := ?_) #[true, true, true, true, true, true, true, true, true, true, true, true, true, true, false, false, false, false] rfl rfl (any_of HT_.out (by kernel_rfl)) (fun _ _ _ h => h) (Or.inl ⟨by rfl, ?_⟩) ?_ ?_
  rotate_left
  ·intro w'
   go_simp
   with_reducible rfl
  rotate_left
  ·simp only [Act.put, List.setIfInBounds_toArray, List.set_cons_zero, List.set_cons_succ, i64_w, i32_w]
   rfl
  refine take_ (i := 14) (N := some 24) (v := ?_) (a' := ?_) #[true, true, true, true, true, true, true, true, true, true, true, true, true, true, true, false, false, false] rfl rfl (take_ofW HT_.out HW_.out (by kernel_rfl)) (fun _ _ _ h => h) (Or.inl ⟨by rfl, ?_⟩) hHeld ?_ ?_
  rotate_left
  ·rintro w' ⟨s0, s1, s2⟩
   go_simp
   with_reducible rfl
  rotate_left
  ·simp only [Act.put, List.setIfInBounds_toArray, List.set_cons_zero, List.set_cons_succ, i64_w, i32_w]
   rfl
  refine pure_ (i := 15) (N := some 25) (v := ?_) (a' := ?_) #[true, true, true, true, true, true, true, true, true, true, true, true, true, true, true, true, false, false] rfl rfl (any_of HT_.out (by kernel_rfl)) (fun _ _ _ h => h) (Or.inl ⟨by rfl, ?_⟩) ?_ ?_
  rotate_left
  ·intro w'
   go_simp
   with_reducible rfl
  rotate_left
  ·simp only [Act.put, List.setIfInBounds_toArray, List.set_cons_zero, List.set_cons_succ, i64_w, i32_w]
   rfl
  refine pure_ (i := 16) (N := some 26) (v := ?_) (a' := ?_) #[true, true, true, true, true, true, true, true, true, true, true, true, true, true, true, true, true, false] rfl rfl (any_of HT_.out (by kernel_rfl)) (fun _ _ _ h => h) (Or.inl ⟨by rfl, ?_⟩) ?_ ?_
  rotate_left
  ·intro w'
   go_simp
   with_reducible rfl
  rotate_left
  ·simp only [Act.put, List.setIfInBounds_toArray, List.set_cons_zero, List.set_cons_succ, i64_w, i32_w]
   rfl
  refine one_ (i := 17) (N := none) #[true, true, true, true, true, true, true, true, true, true, true, true, true, true, true, true, true, true] rfl rfl (one_of HT_.out (by kernel_rfl)) (by decide) (fun K hK => ?_)
  have hs9 : w8.cell? ⟨gb251, 0, none⟩ = some (.int .i64 0) := (blk_cell BK251.out 0).trans rfl
  have hfs9 := blk_frozen BK251.out 0
  have hns9_0 := NB250_251.out
  have hms9_0 := NB251_250.out
  have hs10 : w8.cell? ⟨gb251, 1, none⟩ = some (.int .i64 0) := (blk_cell BK251.out 1).trans rfl
  have hfs10 := blk_frozen BK251.out 1
  have hns10_0 := NB250_251.out
  have hms10_0 := NB251_250.out
  have hs11 : w8.cell? ⟨gb251, 2, none⟩ = some (.int .i64 0) := (blk_cell BK251.out 2).trans rfl
  have hfs11 := blk_frozen BK251.out 2
  have hns11_0 := NB250_251.out
  have hms11_0 := NB251_250.out
  refine skip_ (w1 := ?_) (by rfl) rfl ?_ ?_
  rotate_left
  ·go_simp
   rfl
  refine hK.out _ _ ⟨((cell_far (p := ⟨gb251, _, none⟩) NB250_251.out _).trans (((cell_far (p := ⟨gb251, _, none⟩) NB250_251.out _).trans (((cell_far (p := ⟨gb251, _, none⟩) NB250_251.out _).trans (hHeld.1)))))), ((cell_far (p := ⟨gb251, _, none⟩) NB250_251.out _).trans (((cell_far (p := ⟨gb251, _, none⟩) NB250_251.out _).trans (((cell_far (p := ⟨gb251, _, none⟩) NB250_251.out _).trans (hHeld.2.1)))))), ((cell_far (p := ⟨gb251, _, none⟩) NB250_251.out _).trans (((cell_far (p := ⟨gb251, _, none⟩) NB250_251.out _).trans (((cell_far (p := ⟨gb251, _, none⟩) NB250_251.out _).trans (hHeld.2.2))))))⟩ (fun hHeld => ?_)
  clear hK K
  refine done_ (done_of HT_.out (by kernel_rfl)) ?_
  try go_wp2
  refine bodyPost_ret (results_cell_row rfl _ _ gb251 47 #[.int .i64 a0_0, .int .i64 (wrap64 (Int.tdiv (wrap64 (a0_1 * (wrap64 (a0_0 - a1)))) a0_0)), .int .i64 (wrap64 (Int.tdiv (wrap64 (a0_2 * (wrap64 (a0_0 - a1)))) a0_0))] (0, 0) _ rfl (by (with_reducible repeat (first | refine blk_drewN ?_ _ | refine blk_drew ?_ | refine blk_alloc ?_ _)); refine blk_put (cs := #[.int .i64 a0_0, .int .i64 (wrap64 (Int.tdiv (wrap64 (a0_1 * (wrap64 (a0_0 - a1)))) a0_0)), .int .i64 0]) ?_ 2 _ rfl; (with_reducible repeat (first | refine blk_drewN ?_ _ | refine blk_drew ?_ | refine blk_alloc ?_ _)); refine blk_put (cs := #[.int .i64 a0_0, .int .i64 0, .int .i64 0]) ?_ 1 _ rfl; (with_reducible repeat (first | refine blk_drewN ?_ _ | refine blk_drew ?_ | refine blk_alloc ?_ _)); refine blk_put (cs := #[.int .i64 0, .int .i64 0, .int .i64 0]) ?_ 0 _ rfl; (with_reducible repeat (first | refine blk_drewN ?_ _ | refine blk_drew ?_ | refine blk_alloc ?_ _)); exact BK251.out) Tryz.underlying47 rfl (by kernel_rfl)) rfl ?_
  exact ⟨by first | rfl | (simp [errW_none, errW_some] <;> rfl) | (simp [*, errW_none, errW_some] <;> rfl), by repeat (first | (with_reducible first | exact HB.out | apply below_alloc | apply pw_below_drewN | apply below_drew1 | refine below_set ?_ GE250.out | refine below_set ?_ GE251.out) | exact HB.out)⟩

/-! ### impl_Replenish: function 35 -/
def impl_Replenish.f (p : Int) (k : Int) (c : Int) (d : Int) (v : Int) (u : Int) (g : Int) (a2 : Int) : Option (Int × Int × Int × Int) := (impl_ValidBath.f p k c d v u g).bind fun t1 => if t1 = true then ((impl_within.f a2 0 v).bind fun t2 => if t2 = true then ((impl_Bath_replenished.f v u g a2).bind fun b => some (b.1, b.2.1, b.2.2, 0)) else some (0, 0, 0, 2)) else some (0, 0, 0, 1)
set_option maxHeartbeats 8000000 in
set_option maxRecDepth 100000 in
theorem impl_Replenish.calls (p : Int) (k : Int) (c : Int) (d : Int) (v : Int) (u : Int) (g : Int) (a2 : Int) (r1 : Int) (r2 : Int) (r3 : Int) (r4 : Int) (w : World) (h : impl_Replenish.f p k c d v u g a2 = some (r1, r2, r3, r4)) :
  Calls Tryz.prog 35 #[.agg #[.int .i64 p, .int .i64 k, .int .i8 c, .int .i8 d], .agg #[.int .i64 v, .int .i64 u, .int .i64 g], .int .i64 a2] w fun e w' => e = .returned (.tuple #[.agg #[.int .i64 r1, .int .i64 r2, .int .i64 r3], .int .i64 r4]) ∧ Below w.heap.size w w' := by
 have H' := Aside0.mk (show impl_Replenish.f p k c d v u g a2 = some (r1, r2, r3, r4) from h)
 clear h
 have HD := Aside0.mk (show HBx (((w.alloc (.cells ([.int .i64 p, .int .i64 k, .int .i8 c, .int .i8 d] : List Value).toArray 45)).alloc (.cells ([.int .i64 v, .int .i64 u, .int .i64 g] : List Value).toArray 47)).alloc (.cells ([.int .i64 0, .int .i64 0, .int .i64 0] : List Value).toArray 47)) w.heap.size 45 [.int .i64 p, .int .i64 k, .int .i8 c, .int .i8 d] from alloc3_0 _ _ _ _)
 have HB := Aside0.mk (show HBx (((w.alloc (.cells ([.int .i64 p, .int .i64 k, .int .i8 c, .int .i8 d] : List Value).toArray 45)).alloc (.cells ([.int .i64 v, .int .i64 u, .int .i64 g] : List Value).toArray 47)).alloc (.cells ([.int .i64 0, .int .i64 0, .int .i64 0] : List Value).toArray 47)) (w.heap.size + 1) 47 [.int .i64 v, .int .i64 u, .int .i64 g] from alloc3_1 _ _ _ _)
 have HR := Aside0.mk (show HBx (((w.alloc (.cells ([.int .i64 p, .int .i64 k, .int .i8 c, .int .i8 d] : List Value).toArray 45)).alloc (.cells ([.int .i64 v, .int .i64 u, .int .i64 g] : List Value).toArray 47)).alloc (.cells ([.int .i64 0, .int .i64 0, .int .i64 0] : List Value).toArray 47)) (w.heap.size + 2) 47 [.int .i64 0, .int .i64 0, .int .i64 0] from alloc3_2 _ _ _ _)
 have HL := Aside0.mk (alloc3_below w (.cells ([.int .i64 p, .int .i64 k, .int .i8 c, .int .i8 d] : List Value).toArray 45) (.cells ([.int .i64 v, .int .i64 u, .int .i64 g] : List Value).toArray 47) (.cells ([.int .i64 0, .int .i64 0, .int .i64 0] : List Value).toArray 47))
 have H := H'.out
 clear H'
 unfold impl_Replenish.f at H
 go_enter Tryz.func35, Tryz.ntmps35
 obtain ⟨t1, e1, H⟩ := Option.bind_eq_some_iff.mp H
 have E1 := Aside0.mk e1
 clear e1
 have H' := Aside0.mk H
 clear H
 go_wp2_with (first | (refine hx_load rfl 45 _ rfl w.heap.size rfl 45 [.int .i64 p, .int .i64 k, .int .i8 c, .int .i8 d] HD.out _ Tryz.underlying45 rfl (by kernel_rfl) ?_) | (refine hx_load rfl 47 _ rfl (w.heap.size + 1) rfl 47 [.int .i64 v, .int .i64 u, .int .i64 g] HB.out _ Tryz.underlying47 rfl (by kernel_rfl) ?_))
 refine (impl_ValidBath.calls p k c d v u g t1 _ E1.out).mono ?_
 rintro e w1 ⟨rfl, hb⟩
 have HD1 := Aside0.mk (HD.out.below hb)
 have HB1 := Aside0.mk (HB.out.below hb)
 have HR1 := Aside0.mk (HR.out.below hb)
 have HL1 := Aside0.mk (below_step HL.out hb)
 clear hb HD HB HR HL
 have H := H'.out
 clear H'
 cases t1 with
 | false =>
  simp only [Bool.false_eq_true, if_false, Option.some.injEq, Prod.mk.injEq] at H
  obtain ⟨rfl, rfl, rfl, rfl⟩ := H
  go_wp2_with (first | (refine hx_store rfl 47 _ _ rfl (w.heap.size + 2) [.int .i64 0, .int .i64 0, .int .i64 0] rfl rfl 47 [.int .i64 0, .int .i64 0, .int .i64 0] HR1.out (by kernel_rfl) rfl (by rfl) ?_) | (refine hx_load rfl 45 _ rfl w.heap.size rfl 45 [.int .i64 p, .int .i64 k, .int .i8 c, .int .i8 d] HD1.out _ Tryz.underlying45 rfl (by kernel_rfl) ?_) | (refine hx_load rfl 47 _ rfl (w.heap.size + 1) rfl 47 [.int .i64 v, .int .i64 u, .int .i64 g] HB1.out _ Tryz.underlying47 rfl (by kernel_rfl) ?_))
  refine bodyPost_ret (results_ct rfl _ _ (w.heap.size + 2) 47 ([.int .i64 0, .int .i64 0, .int .i64 0] : List Value).toArray (0, 0) _ rfl (HR1.out.row [.int .i64 0, .int .i64 0, .int .i64 0]) Tryz.underlying47 rfl (by kernel_rfl)) rfl ?_
  exact ⟨rfl, hx_below HL1.out (by omega) _⟩
 | true =>
  rw [if_pos rfl] at H
  have hc0 := HB1.out.cell 0 (v := .int .i64 v) rfl
  obtain ⟨t2, e2, H⟩ := Option.bind_eq_some_iff.mp H
  have E2 := Aside0.mk e2
  clear e2
  have H' := Aside0.mk H
  clear H
  go_wp2_with (first | (refine hx_load rfl 45 _ rfl w.heap.size rfl 45 [.int .i64 p, .int .i64 k, .int .i8 c, .int .i8 d] HD1.out _ Tryz.underlying45 rfl (by kernel_rfl) ?_) | (refine hx_load rfl 47 _ rfl (w.heap.size + 1) rfl 47 [.int .i64 v, .int .i64 u, .int .i64 g] HB1.out _ Tryz.underlying47 rfl (by kernel_rfl) ?_))
  refine (impl_within.calls a2 0 v t2 _ E2.out).mono ?_
  rintro e w2 ⟨rfl, hb⟩
  replace hb := hb.below
  have HD2 := Aside0.mk (HD1.out.below hb)
  have HB2 := Aside0.mk (HB1.out.below hb)
  have HR2 := Aside0.mk (HR1.out.below hb)
  have HL2 := Aside0.mk (below_step HL1.out hb)
  clear hb HD1 HB1 HR1 HL1
  have H := H'.out
  clear H'
  clear hc0
  cases t2 with
  | false =>
   simp only [Bool.false_eq_true, if_false, Option.some.injEq, Prod.mk.injEq] at H
   obtain ⟨rfl, rfl, rfl, rfl⟩ := H
   go_wp2_with (first | (refine hx_store rfl 47 _ _ rfl (w.heap.size + 2) [.int .i64 0, .int .i64 0, .int .i64 0] rfl rfl 47 [.int .i64 0, .int .i64 0, .int .i64 0] HR2.out (by kernel_rfl) rfl (by rfl) ?_) | (refine hx_load rfl 45 _ rfl w.heap.size rfl 45 [.int .i64 p, .int .i64 k, .int .i8 c, .int .i8 d] HD2.out _ Tryz.underlying45 rfl (by kernel_rfl) ?_) | (refine hx_load rfl 47 _ rfl (w.heap.size + 1) rfl 47 [.int .i64 v, .int .i64 u, .int .i64 g] HB2.out _ Tryz.underlying47 rfl (by kernel_rfl) ?_))
   refine bodyPost_ret (results_ct rfl _ _ (w.heap.size + 2) 47 ([.int .i64 0, .int .i64 0, .int .i64 0] : List Value).toArray (0, 0) _ rfl (HR2.out.row [.int .i64 0, .int .i64 0, .int .i64 0]) Tryz.underlying47 rfl (by kernel_rfl)) rfl ?_
   exact ⟨rfl, hx_below HL2.out (by omega) _⟩
  | true =>
   rw [if_pos rfl] at H
   obtain ⟨⟨x1, x2, x3⟩, e3, H⟩ := Option.bind_eq_some_iff.mp H
   have E3 := Aside0.mk e3
   clear e3
   have H' := Aside0.mk H
   clear H
   go_wp2_with (first | (refine hx_load rfl 45 _ rfl w.heap.size rfl 45 [.int .i64 p, .int .i64 k, .int .i8 c, .int .i8 d] HD2.out _ Tryz.underlying45 rfl (by kernel_rfl) ?_) | (refine hx_load rfl 47 _ rfl (w.heap.size + 1) rfl 47 [.int .i64 v, .int .i64 u, .int .i64 g] HB2.out _ Tryz.underlying47 rfl (by kernel_rfl) ?_))
   refine (impl_Bath_replenished.calls v u g a2 x1 x2 x3 _ E3.out).mono ?_
   rintro e w3 ⟨rfl, hb⟩
   have HD3 := Aside0.mk (HD2.out.below hb)
   have HB3 := Aside0.mk (HB2.out.below hb)
   have HR3 := Aside0.mk (HR2.out.below hb)
   have HL3 := Aside0.mk (below_step HL2.out hb)
   clear hb HD2 HB2 HR2 HL2
   have H := H'.out
   clear H'
   simp only [Option.some.injEq, Prod.mk.injEq] at H
   obtain ⟨rfl, rfl, rfl, rfl⟩ := H
   go_wp2_with (first | (refine hx_store rfl 47 _ _ rfl (w.heap.size + 2) [.int .i64 x1, .int .i64 x2, .int .i64 x3] rfl rfl 47 [.int .i64 0, .int .i64 0, .int .i64 0] HR3.out (by kernel_rfl) rfl (by rfl) ?_) | (refine hx_load rfl 45 _ rfl w.heap.size rfl 45 [.int .i64 p, .int .i64 k, .int .i8 c, .int .i8 d] HD3.out _ Tryz.underlying45 rfl (by kernel_rfl) ?_) | (refine hx_load rfl 47 _ rfl (w.heap.size + 1) rfl 47 [.int .i64 v, .int .i64 u, .int .i64 g] HB3.out _ Tryz.underlying47 rfl (by kernel_rfl) ?_))
   refine bodyPost_ret (results_ct rfl _ _ (w.heap.size + 2) 47 ([.int .i64 x1, .int .i64 x2, .int .i64 x3] : List Value).toArray (0, 0) _ rfl (HR3.out.row [.int .i64 x1, .int .i64 x2, .int .i64 x3]) Tryz.underlying47 rfl (by kernel_rfl)) rfl ?_
   exact ⟨rfl, hx_below HL3.out (by omega) _⟩


/-! ### impl_Act_do: function 154 -/
def impl_Act_do.f (k : Nat) (a0_0 : Int) (a0_1 : Int) (a1_0 : Int) (a1_1 : Int) (a1_2 : Int) (a1_3 : Int) (a2_0 : Int) (a2_1 : Int) (a2_2 : Int) : Option (Int × Int × Int × Int) := if a0_0 = 0 then ((impl_DevelopSheet.f k a1_0 a1_1 a1_2 a1_3 a2_0 a2_1 a2_2 a0_1).bind fun bt256 => (some (bt256.1, bt256.2.1, bt256.2.2.1, bt256.2.2.2))) else (if a0_0 = 1 then ((impl_RestBath.f a1_0 a1_1 a1_2 a1_3 a2_0 a2_1 a2_2 a0_1).bind fun bt260 => (some (bt260.1, bt260.2.1, bt260.2.2.1, bt260.2.2.2))) else ((impl_Replenish.f a1_0 a1_1 a1_2 a1_3 a2_0 a2_1 a2_2 a0_1).bind fun bt264 => (some (bt264.1, bt264.2.1, bt264.2.2.1, bt264.2.2.2))))
theorem impl_Act_do.mono : ∀ a0 a1 a2 a3 a4 a5 a6 a7 a8 k, LeO (impl_Act_do.f k a0 a1 a2 a3 a4 a5 a6 a7 a8) (impl_Act_do.f (k + 1) a0 a1 a2 a3 a4 a5 a6 a7 a8) := by
 intro a0 a1 a2 a3 a4 a5 a6 a7 a8 k
 unfold impl_Act_do.f
 repeat' first
   | (with_reducible exact impl_DevelopSheet.mono _ _ _ _ _ _ _ _ _)
   | (with_reducible exact LeO.refl _)
   | (with_reducible exact LeO.none _)
   | (with_reducible refine LeO.ite ?_ ?_)
   | (with_reducible refine LeO.bind ?_ (fun _ => ?_))
   | exact impl_DevelopSheet.mono _ _ _ _ _ _ _ _ _
   | exact LeO.none _
   | refine LeO.ite ?_ ?_
   | refine LeO.bind ?_ (fun _ => ?_)
set_option maxHeartbeats 8000000 in
set_option maxRecDepth 100000 in
theorem impl_Act_do.calls (k : Nat) (a0_0 : Int) (a0_1 : Int) (a1_0 : Int) (a1_1 : Int) (a1_2 : Int) (a1_3 : Int) (a2_0 : Int) (a2_1 : Int) (a2_2 : Int) (r1 : Int) (r2 : Int) (r3 : Int) (r4 : Int) (w : World) (h : impl_Act_do.f k a0_0 a0_1 a1_0 a1_1 a1_2 a1_3 a2_0 a2_1 a2_2 = some (r1, r2, r3, r4)) :
  Calls Tryz.prog 154 #[.agg #[.int .i8 a0_0, .int .i64 a0_1], .agg #[.int .i64 a1_0, .int .i64 a1_1, .int .i8 a1_2, .int .i8 a1_3], .agg #[.int .i64 a2_0, .int .i64 a2_1, .int .i64 a2_2]] w fun e w' => e = .returned (.tuple #[.agg #[.int .i64 r1, .int .i64 r2, .int .i64 r3], .int .i64 r4]) ∧ Below w.heap.size w w' := by
 have hu65 := Tryz.underlying65
 have hu45 := Tryz.underlying45
 have hu47 := Tryz.underlying47
 have HB := Aside0.mk (Below.refl w.heap.size w)
 have H : (if a0_0 = 0 then ((impl_DevelopSheet.f k a1_0 a1_1 a1_2 a1_3 a2_0 a2_1 a2_2 a0_1).bind fun bt256 => (some (bt256.1, bt256.2.1, bt256.2.2.1, bt256.2.2.2))) else (if a0_0 = 1 then ((impl_RestBath.f a1_0 a1_1 a1_2 a1_3 a2_0 a2_1 a2_2 a0_1).bind fun bt260 => (some (bt260.1, bt260.2.1, bt260.2.2.1, bt260.2.2.2))) else ((impl_Replenish.f a1_0 a1_1 a1_2 a1_3 a2_0 a2_1 a2_2 a0_1).bind fun bt264 => (some (bt264.1, bt264.2.1, bt264.2.2.1, bt264.2.2.2))))) = some (r1, r2, r3, r4) := h
 clear h
 by_cases c4 : a0_0 = 0
 ·rw [if_pos c4] at H
  have c4b0 : (a0_0 == 0) = true := beq_iff_eq.mpr c4
  have c4b1 : (a0_0 != 0) = false := bne_eq_false_iff_eq.mpr c4
  clear c4
  replace H := Option.bind_eq_some_iff.mp H
  obtain ⟨⟨t256, t257, t258, t259⟩, A50, H⟩ := H
  replace H : (some (t256, t257, t258, t259)) = some (r1, r2, r3, r4) := H
  have A5 := Aside0.mk A50
  clear A50
  simp only [Option.some.injEq, Prod.mk.injEq] at H
  obtain ⟨rfl, rfl, rfl, rfl⟩ := H
  go_enter Tryz.func154, Tryz.ntmps154
  go_wp2_with (first | ((with_reducible refine gate_dst (N := 3) rfl ?_); refine box_event ?hg (N := 3) ?hd (cs := #[.int .i8 a0_0, .int .i64 a0_1]) (t := 65) ?hr ?_; (case hd => rfl); (case hg => rfl); (case hr => first | (go_simp; done) | (go_simp; rfl)); intro gb252 hg w6 hbox hb; have n0_ := Aside0.mk (below_step HB.out hb); have n1_ := Aside0.mk (hbox); have n2_ := Aside0.mk ((by rw [hg]; exact (below_size HB.out) : w.heap.size ≤ gb252)); have n3_ := Aside0.mk ((by rw [hg]; exact (below_size HB.out) : w.heap.size ≤ gb252)); clear HB; have HB := n0_; have BK252 := n1_; have GW252 := n2_; have GE252 := n3_; clear n0_ n1_ n2_ n3_; clear hb hbox hg) | ((with_reducible refine gate_dst (N := 4) rfl ?_); refine box_event ?hg (N := 4) ?hd (cs := #[.int .i64 a1_0, .int .i64 a1_1, .int .i8 a1_2, .int .i8 a1_3]) (t := 45) ?hr ?_; (case hd => rfl); (case hg => rfl); (case hr => first | (go_simp; done) | (go_simp; rfl)); intro gb253 hg w7 hbox hb; have n0_ := Aside0.mk (blk_below BK252.out hb); have n1_ := Aside0.mk (below_step HB.out hb); have n2_ := Aside0.mk (hbox); have n3_ := Aside0.mk ((by rw [hg]; exact (below_size HB.out) : w.heap.size ≤ gb253)); have n4_ := Aside0.mk ((by rw [hg]; exact (below_size HB.out) : w.heap.size ≤ gb253)); have n5_ := Aside0.mk ((by rw [hg]; exact Nat.ne_of_lt (blk_lt BK252.out) : gb252 ≠ gb253)); have n6_ := Aside0.mk ((by rw [hg]; exact Nat.ne_of_gt (blk_lt BK252.out) : gb253 ≠ gb252)); clear BK252; clear HB; have BK252 := n0_; have HB := n1_; have BK253 := n2_; have GW253 := n3_; have GE253 := n4_; have NB252_253 := n5_; have NB253_252 := n6_; clear n0_ n1_ n2_ n3_ n4_ n5_ n6_; clear hb hbox hg) | ((with_reducible refine gate_dst (N := 5) rfl ?_); refine box_event ?hg (N := 5) ?hd (cs := #[.int .i64 a2_0, .int .i64 a2_1, .int .i64 a2_2]) (t := 47) ?hr ?_; (case hd => rfl); (case hg => rfl); (case hr => first | (go_simp; done) | (go_simp; rfl)); intro gb254 hg w8 hbox hb; have n0_ := Aside0.mk (blk_below BK252.out hb); have n1_ := Aside0.mk (blk_below BK253.out hb); have n2_ := Aside0.mk (below_step HB.out hb); have n3_ := Aside0.mk (hbox); have n4_ := Aside0.mk ((by rw [hg]; exact (below_size HB.out) : w.heap.size ≤ gb254)); have n5_ := Aside0.mk ((by rw [hg]; exact (below_size HB.out) : w.heap.size ≤ gb254)); have n6_ := Aside0.mk ((by rw [hg]; exact Nat.ne_of_lt (blk_lt BK252.out) : gb252 ≠ gb254)); have n7_ := Aside0.mk ((by rw [hg]; exact Nat.ne_of_gt (blk_lt BK252.out) : gb254 ≠ gb252)); have n8_ := Aside0.mk ((by rw [hg]; exact Nat.ne_of_lt (blk_lt BK253.out) : gb253 ≠ gb254)); have n9_ := Aside0.mk ((by rw [hg]; exact Nat.ne_of_gt (blk_lt BK253.out) : gb254 ≠ gb253)); clear BK252; clear BK253; clear HB; have BK252 := n0_; have BK253 := n1_; have HB := n2_; have BK254 := n3_; have GW254 := n4_; have GE254 := n5_; have NB252_254 := n6_; have NB254_252 := n7_; have NB253_254 := n8_; have NB254_253 := n9_; clear n0_ n1_ n2_ n3_ n4_ n5_ n6_ n7_ n8_ n9_; clear hb hbox hg) | ((with_reducible refine gate_dst (N := 6) rfl ?_); refine box_event ?hg (N := 6) ?hd (cs := #[.int .i64 0, .int .i64 0, .int .i64 0]) (t := 47) ?hr ?_; (case hd => rfl); (case hg => rfl); (case hr => first | (go_simp; done) | (go_simp; rfl)); intro gb255 hg w9 hbox hb; have n0_ := Aside0.mk (blk_below BK252.out hb); have n1_ := Aside0.mk (blk_below BK253.out hb); have n2_ := Aside0.mk (blk_below BK254.out hb); have n3_ := Aside0.mk (below_step HB.out hb); have n4_ := Aside0.mk (hbox); have n5_ := Aside0.mk ((by rw [hg]; exact (below_size HB.out) : w.heap.size ≤ gb255)); have n6_ := Aside0.mk ((by rw [hg]; exact (below_size HB.out) : w.heap.size ≤ gb255)); have n7_ := Aside0.mk ((by rw [hg]; exact Nat.ne_of_lt (blk_lt BK252.out) : gb252 ≠ gb255)); have n8_ := Aside0.mk ((by rw [hg]; exact Nat.ne_of_gt (blk_lt BK252.out) : gb255 ≠ gb252)); have n9_ := Aside0.mk ((by rw [hg]; exact Nat.ne_of_lt (blk_lt BK253.out) : gb253 ≠ gb255)); have n10_ := Aside0.mk ((by rw [hg]; exact Nat.ne_of_gt (blk_lt BK253.out) : gb255 ≠ gb253)); have n11_ := Aside0.mk ((by rw [hg]; exact Nat.ne_of_lt (blk_lt BK254.out) : gb254 ≠ gb255)); have n12_ := Aside0.mk ((by rw [hg]; exact Nat.ne_of_gt (blk_lt BK254.out) : gb255 ≠ gb254)); clear BK252; clear BK253; clear BK254; clear HB; have BK252 := n0_; have BK253 := n1_; have BK254 := n2_; have HB := n3_; have BK255 := n4_; have GW255 := n5_; have GE255 := n6_; have NB252_255 := n7_; have NB255_252 := n8_; have NB253_255 := n9_; have NB255_253 := n10_; have NB254_255 := n11_; have NB255_254 := n12_; clear n0_ n1_ n2_ n3_ n4_ n5_ n6_ n7_ n8_ n9_ n10_ n11_ n12_; clear hb hbox hg; have hnb10 := NB252_253.out; have hnc10 := NB253_252.out; have hnb11 := NB252_254.out; have hnc11 := NB254_252.out; have hnb12 := NB252_255.out; have hnc12 := NB255_252.out; have hcz13_0 := blk_c BK252.out 0 rfl; have hcz13_1 := blk_c BK252.out 1 rfl; have hfz13_0 := blk_frozen BK252.out 0; have hfz13_1 := blk_frozen BK252.out 1; have hnb14 := NB253_254.out; have hnc14 := NB254_253.out; have hnb15 := NB253_255.out; have hnc15 := NB255_253.out; have hcz16_0 := blk_c BK253.out 0 rfl; have hcz16_1 := blk_c BK253.out 1 rfl; have hcz16_2 := blk_c BK253.out 2 rfl; have hcz16_3 := blk_c BK253.out 3 rfl; have hfz16_0 := blk_frozen BK253.out 0; have hfz16_1 := blk_frozen BK253.out 1; have hfz16_2 := blk_frozen BK253.out 2; have hfz16_3 := blk_frozen BK253.out 3; have hnb17 := NB254_255.out; have hnc17 := NB255_254.out; have hcz18_0 := blk_c BK254.out 0 rfl; have hcz18_1 := blk_c BK254.out 1 rfl; have hcz18_2 := blk_c BK254.out 2 rfl; have hfz18_0 := blk_frozen BK254.out 0; have hfz18_1 := blk_frozen BK254.out 1; have hfz18_2 := blk_frozen BK254.out 2) | ((with_reducible refine gate_callee (f := 33) rfl ?_); refine goesL_ (some 16) rfl rfl Tryz.func33 (by kernel_rfl) rfl #[.agg #[.int .i64 a1_0, .int .i64 a1_1, .int .i8 a1_2, .int .i8 a1_3], .agg #[.int .i64 a2_0, .int .i64 a2_1, .int .i64 a2_2], .int .i64 a0_1] rfl (by (try simp only [List.map_toArray, List.map_cons, List.map_nil]); first | done | rfl | (simp only [List.length_drop, List.length_take]; rfl)) ?_; (with_reducible refine (impl_DevelopSheet.calls k a1_0 a1_1 a1_2 a1_3 a2_0 a2_1 a2_2 a0_1 t256 t257 t258 t259 _ A5.out).mono ?_); rintro e w19 ⟨rfl, hb⟩; refine ⟨_, rfl, ?_⟩; have n0_ := Aside0.mk (blk_below BK252.out hb); have n1_ := Aside0.mk (blk_below BK253.out hb); have n2_ := Aside0.mk (blk_below BK254.out hb); have n3_ := Aside0.mk (blk_below BK255.out hb); have n4_ := Aside0.mk (below_step HB.out hb); clear BK252; clear BK253; clear BK254; clear BK255; clear HB; have BK252 := n0_; have BK253 := n1_; have BK254 := n2_; have BK255 := n3_; have HB := n4_; clear n0_ n1_ n2_ n3_ n4_; (try clear hb); (try clear hb2); (try clear hk); (try clear hi); have hcz20_0 := blk_c BK255.out 0 rfl; have hcz20_1 := blk_c BK255.out 1 rfl; have hcz20_2 := blk_c BK255.out 2 rfl; have hfz20_0 := blk_frozen BK255.out 0; have hfz20_1 := blk_frozen BK255.out 1; have hfz20_2 := blk_frozen BK255.out 2))
  refine bodyPost_ret (results_ct rfl _ _ gb255 47 #[.int .i64 t256, .int .i64 t257, .int .i64 t258] (0, 0) _ rfl (by (with_reducible repeat (first | refine blk_drewN ?_ _ | refine blk_drew ?_ | refine blk_alloc ?_ _)); refine blk_put (cs := #[.int .i64 t256, .int .i64 t257, .int .i64 0]) ?_ 2 _ rfl; (with_reducible repeat (first | refine blk_drewN ?_ _ | refine blk_drew ?_ | refine blk_alloc ?_ _)); refine blk_put (cs := #[.int .i64 t256, .int .i64 0, .int .i64 0]) ?_ 1 _ rfl; (with_reducible repeat (first | refine blk_drewN ?_ _ | refine blk_drew ?_ | refine blk_alloc ?_ _)); refine blk_put (cs := #[.int .i64 0, .int .i64 0, .int .i64 0]) ?_ 0 _ rfl; (with_reducible repeat (first | refine blk_drewN ?_ _ | refine blk_drew ?_ | refine blk_alloc ?_ _)); exact BK255.out) Tryz.underlying47 rfl (by kernel_rfl)) rfl ?_
  exact ⟨by first | rfl | (simp [errW_none, errW_some] <;> rfl) | (simp [*, errW_none, errW_some] <;> rfl), by repeat (first | (with_reducible first | exact HB.out | apply below_alloc | apply pw_below_drewN | apply below_drew1 | refine below_set ?_ GE252.out | refine below_set ?_ GE253.out | refine below_set ?_ GE254.out | refine below_set ?_ GE255.out) | exact HB.out)⟩
 ·rw [if_neg c4] at H
  have c4b0 : (a0_0 == 0) = false := beq_eq_false_iff_ne.mpr c4
  have c4b1 : (a0_0 != 0) = true := bne_iff_ne.mpr c4
  by_cases c21 : a0_0 = 1
  ·rw [if_pos c21] at H
   have c21b0 : (a0_0 == 1) = true := beq_iff_eq.mpr c21
   have c21b1 : (a0_0 != 1) = false := bne_eq_false_iff_eq.mpr c21
   clear c21
   replace H := Option.bind_eq_some_iff.mp H
   obtain ⟨⟨t260, t261, t262, t263⟩, A220, H⟩ := H
   replace H : (some (t260, t261, t262, t263)) = some (r1, r2, r3, r4) := H
   have A22 := Aside0.mk A220
   clear A220
   simp only [Option.some.injEq, Prod.mk.injEq] at H
   obtain ⟨rfl, rfl, rfl, rfl⟩ := H
   go_enter Tryz.func154, Tryz.ntmps154
   go_wp2_with (first | ((with_reducible refine gate_dst (N := 3) rfl ?_); refine box_event ?hg (N := 3) ?hd (cs := #[.int .i8 a0_0, .int .i64 a0_1]) (t := 65) ?hr ?_; (case hd => rfl); (case hg => rfl); (case hr => first | (go_simp; done) | (go_simp; rfl)); intro gb252 hg w23 hbox hb; have n0_ := Aside0.mk (below_step HB.out hb); have n1_ := Aside0.mk (hbox); have n2_ := Aside0.mk ((by rw [hg]; exact (below_size HB.out) : w.heap.size ≤ gb252)); have n3_ := Aside0.mk ((by rw [hg]; exact (below_size HB.out) : w.heap.size ≤ gb252)); clear HB; have HB := n0_; have BK252 := n1_; have GW252 := n2_; have GE252 := n3_; clear n0_ n1_ n2_ n3_; clear hb hbox hg) | ((with_reducible refine gate_dst (N := 4) rfl ?_); refine box_event ?hg (N := 4) ?hd (cs := #[.int .i64 a1_0, .int .i64 a1_1, .int .i8 a1_2, .int .i8 a1_3]) (t := 45) ?hr ?_; (case hd => rfl); (case hg => rfl); (case hr => first | (go_simp; done) | (go_simp; rfl)); intro gb253 hg w24 hbox hb; have n0_ := Aside0.mk (blk_below BK252.out hb); have n1_ := Aside0.mk (below_step HB.out hb); have n2_ := Aside0.mk (hbox); have n3_ := Aside0.mk ((by rw [hg]; exact (below_size HB.out) : w.heap.size ≤ gb253)); have n4_ := Aside0.mk ((by rw [hg]; exact (below_size HB.out) : w.heap.size ≤ gb253)); have n5_ := Aside0.mk ((by rw [hg]; exact Nat.ne_of_lt (blk_lt BK252.out) : gb252 ≠ gb253)); have n6_ := Aside0.mk ((by rw [hg]; exact Nat.ne_of_gt (blk_lt BK252.out) : gb253 ≠ gb252)); clear BK252; clear HB; have BK252 := n0_; have HB := n1_; have BK253 := n2_; have GW253 := n3_; have GE253 := n4_; have NB252_253 := n5_; have NB253_252 := n6_; clear n0_ n1_ n2_ n3_ n4_ n5_ n6_; clear hb hbox hg) | ((with_reducible refine gate_dst (N := 5) rfl ?_); refine box_event ?hg (N := 5) ?hd (cs := #[.int .i64 a2_0, .int .i64 a2_1, .int .i64 a2_2]) (t := 47) ?hr ?_; (case hd => rfl); (case hg => rfl); (case hr => first | (go_simp; done) | (go_simp; rfl)); intro gb254 hg w25 hbox hb; have n0_ := Aside0.mk (blk_below BK252.out hb); have n1_ := Aside0.mk (blk_below BK253.out hb); have n2_ := Aside0.mk (below_step HB.out hb); have n3_ := Aside0.mk (hbox); have n4_ := Aside0.mk ((by rw [hg]; exact (below_size HB.out) : w.heap.size ≤ gb254)); have n5_ := Aside0.mk ((by rw [hg]; exact (below_size HB.out) : w.heap.size ≤ gb254)); have n6_ := Aside0.mk ((by rw [hg]; exact Nat.ne_of_lt (blk_lt BK252.out) : gb252 ≠ gb254)); have n7_ := Aside0.mk ((by rw [hg]; exact Nat.ne_of_gt (blk_lt BK252.out) : gb254 ≠ gb252)); have n8_ := Aside0.mk ((by rw [hg]; exact Nat.ne_of_lt (blk_lt BK253.out) : gb253 ≠ gb254)); have n9_ := Aside0.mk ((by rw [hg]; exact Nat.ne_of_gt (blk_lt BK253.out) : gb254 ≠ gb253)); clear BK252; clear BK253; clear HB; have BK252 := n0_; have BK253 := n1_; have HB := n2_; have BK254 := n3_; have GW254 := n4_; have GE254 := n5_; have NB252_254 := n6_; have NB254_252 := n7_; have NB253_254 := n8_; have NB254_253 := n9_; clear n0_ n1_ n2_ n3_ n4_ n5_ n6_ n7_ n8_ n9_; clear hb hbox hg) | ((with_reducible refine gate_dst (N := 6) rfl ?_); refine box_event ?hg (N := 6) ?hd (cs := #[.int .i64 0, .int .i64 0, .int .i64 0]) (t := 47) ?hr ?_; (case hd => rfl); (case hg => rfl); (case hr => first | (go_simp; done) | (go_simp; rfl)); intro gb255 hg w26 hbox hb; have n0_ := Aside0.mk (blk_below BK252.out hb); have n1_ := Aside0.mk (blk_below BK253.out hb); have n2_ := Aside0.mk (blk_below BK254.out hb); have n3_ := Aside0.mk (below_step HB.out hb); have n4_ := Aside0.mk (hbox); have n5_ := Aside0.mk ((by rw [hg]; exact (below_size HB.out) : w.heap.size ≤ gb255)); have n6_ := Aside0.mk ((by rw [hg]; exact (below_size HB.out) : w.heap.size ≤ gb255)); have n7_ := Aside0.mk ((by rw [hg]; exact Nat.ne_of_lt (blk_lt BK252.out) : gb252 ≠ gb255)); have n8_ := Aside0.mk ((by rw [hg]; exact Nat.ne_of_gt (blk_lt BK252.out) : gb255 ≠ gb252)); have n9_ := Aside0.mk ((by rw [hg]; exact Nat.ne_of_lt (blk_lt BK253.out) : gb253 ≠ gb255)); have n10_ := Aside0.mk ((by rw [hg]; exact Nat.ne_of_gt (blk_lt BK253.out) : gb255 ≠ gb253)); have n11_ := Aside0.mk ((by rw [hg]; exact Nat.ne_of_lt (blk_lt BK254.out) : gb254 ≠ gb255)); have n12_ := Aside0.mk ((by rw [hg]; exact Nat.ne_of_gt (blk_lt BK254.out) : gb255 ≠ gb254)); clear BK252; clear BK253; clear BK254; clear HB; have BK252 := n0_; have BK253 := n1_; have BK254 := n2_; have HB := n3_; have BK255 := n4_; have GW255 := n5_; have GE255 := n6_; have NB252_255 := n7_; have NB255_252 := n8_; have NB253_255 := n9_; have NB255_253 := n10_; have NB254_255 := n11_; have NB255_254 := n12_; clear n0_ n1_ n2_ n3_ n4_ n5_ n6_ n7_ n8_ n9_ n10_ n11_ n12_; clear hb hbox hg; have hnb27 := NB252_253.out; have hnc27 := NB253_252.out; have hnb28 := NB252_254.out; have hnc28 := NB254_252.out; have hnb29 := NB252_255.out; have hnc29 := NB255_252.out; have hcz30_0 := blk_c BK252.out 0 rfl; have hcz30_1 := blk_c BK252.out 1 rfl; have hfz30_0 := blk_frozen BK252.out 0; have hfz30_1 := blk_frozen BK252.out 1; have hnb31 := NB253_254.out; have hnc31 := NB254_253.out; have hnb32 := NB253_255.out; have hnc32 := NB255_253.out; have hcz33_0 := blk_c BK253.out 0 rfl; have hcz33_1 := blk_c BK253.out 1 rfl; have hcz33_2 := blk_c BK253.out 2 rfl; have hcz33_3 := blk_c BK253.out 3 rfl; have hfz33_0 := blk_frozen BK253.out 0; have hfz33_1 := blk_frozen BK253.out 1; have hfz33_2 := blk_frozen BK253.out 2; have hfz33_3 := blk_frozen BK253.out 3; have hnb34 := NB254_255.out; have hnc34 := NB255_254.out; have hcz35_0 := blk_c BK254.out 0 rfl; have hcz35_1 := blk_c BK254.out 1 rfl; have hcz35_2 := blk_c BK254.out 2 rfl; have hfz35_0 := blk_frozen BK254.out 0; have hfz35_1 := blk_frozen BK254.out 1; have hfz35_2 := blk_frozen BK254.out 2) | ((with_reducible refine gate_callee (f := 34) rfl ?_); refine goesL_ (some 25) rfl rfl Tryz.func34 (by kernel_rfl) rfl #[.agg #[.int .i64 a1_0, .int .i64 a1_1, .int .i8 a1_2, .int .i8 a1_3], .agg #[.int .i64 a2_0, .int .i64 a2_1, .int .i64 a2_2], .int .i64 a0_1] rfl (by (try simp only [List.map_toArray, List.map_cons, List.map_nil]); first | done | rfl | (simp only [List.length_drop, List.length_take]; rfl)) ?_; (with_reducible refine (impl_RestBath.calls a1_0 a1_1 a1_2 a1_3 a2_0 a2_1 a2_2 a0_1 t260 t261 t262 t263 _ A22.out).mono ?_); rintro e w36 ⟨rfl, hb⟩; refine ⟨_, rfl, ?_⟩; have n0_ := Aside0.mk (blk_below BK252.out hb); have n1_ := Aside0.mk (blk_below BK253.out hb); have n2_ := Aside0.mk (blk_below BK254.out hb); have n3_ := Aside0.mk (blk_below BK255.out hb); have n4_ := Aside0.mk (below_step HB.out hb); clear BK252; clear BK253; clear BK254; clear BK255; clear HB; have BK252 := n0_; have BK253 := n1_; have BK254 := n2_; have BK255 := n3_; have HB := n4_; clear n0_ n1_ n2_ n3_ n4_; (try clear hb); (try clear hb2); (try clear hk); (try clear hi); have hcz37_0 := blk_c BK255.out 0 rfl; have hcz37_1 := blk_c BK255.out 1 rfl; have hcz37_2 := blk_c BK255.out 2 rfl; have hfz37_0 := blk_frozen BK255.out 0; have hfz37_1 := blk_frozen BK255.out 1; have hfz37_2 := blk_frozen BK255.out 2))
   refine bodyPost_ret (results_ct rfl _ _ gb255 47 #[.int .i64 t260, .int .i64 t261, .int .i64 t262] (0, 0) _ rfl (by (with_reducible repeat (first | refine blk_drewN ?_ _ | refine blk_drew ?_ | refine blk_alloc ?_ _)); refine blk_put (cs := #[.int .i64 t260, .int .i64 t261, .int .i64 0]) ?_ 2 _ rfl; (with_reducible repeat (first | refine blk_drewN ?_ _ | refine blk_drew ?_ | refine blk_alloc ?_ _)); refine blk_put (cs := #[.int .i64 t260, .int .i64 0, .int .i64 0]) ?_ 1 _ rfl; (with_reducible repeat (first | refine blk_drewN ?_ _ | refine blk_drew ?_ | refine blk_alloc ?_ _)); refine blk_put (cs := #[.int .i64 0, .int .i64 0, .int .i64 0]) ?_ 0 _ rfl; (with_reducible repeat (first | refine blk_drewN ?_ _ | refine blk_drew ?_ | refine blk_alloc ?_ _)); exact BK255.out) Tryz.underlying47 rfl (by kernel_rfl)) rfl ?_
   exact ⟨by first | rfl | (simp [errW_none, errW_some] <;> rfl) | (simp [*, errW_none, errW_some] <;> rfl), by repeat (first | (with_reducible first | exact HB.out | apply below_alloc | apply pw_below_drewN | apply below_drew1 | refine below_set ?_ GE252.out | refine below_set ?_ GE253.out | refine below_set ?_ GE254.out | refine below_set ?_ GE255.out) | exact HB.out)⟩
  ·rw [if_neg c21] at H
   have c21b0 : (a0_0 == 1) = false := beq_eq_false_iff_ne.mpr c21
   have c21b1 : (a0_0 != 1) = true := bne_iff_ne.mpr c21
   replace H := Option.bind_eq_some_iff.mp H
   obtain ⟨⟨t264, t265, t266, t267⟩, A380, H⟩ := H
   replace H : (some (t264, t265, t266, t267)) = some (r1, r2, r3, r4) := H
   have A38 := Aside0.mk A380
   clear A380
   simp only [Option.some.injEq, Prod.mk.injEq] at H
   obtain ⟨rfl, rfl, rfl, rfl⟩ := H
   go_enter Tryz.func154, Tryz.ntmps154
   go_wp2_with (first | ((with_reducible refine gate_dst (N := 3) rfl ?_); refine box_event ?hg (N := 3) ?hd (cs := #[.int .i8 a0_0, .int .i64 a0_1]) (t := 65) ?hr ?_; (case hd => rfl); (case hg => rfl); (case hr => first | (go_simp; done) | (go_simp; rfl)); intro gb252 hg w39 hbox hb; have n0_ := Aside0.mk (below_step HB.out hb); have n1_ := Aside0.mk (hbox); have n2_ := Aside0.mk ((by rw [hg]; exact (below_size HB.out) : w.heap.size ≤ gb252)); have n3_ := Aside0.mk ((by rw [hg]; exact (below_size HB.out) : w.heap.size ≤ gb252)); clear HB; have HB := n0_; have BK252 := n1_; have GW252 := n2_; have GE252 := n3_; clear n0_ n1_ n2_ n3_; clear hb hbox hg) | ((with_reducible refine gate_dst (N := 4) rfl ?_); refine box_event ?hg (N := 4) ?hd (cs := #[.int .i64 a1_0, .int .i64 a1_1, .int .i8 a1_2, .int .i8 a1_3]) (t := 45) ?hr ?_; (case hd => rfl); (case hg => rfl); (case hr => first | (go_simp; done) | (go_simp; rfl)); intro gb253 hg w40 hbox hb; have n0_ := Aside0.mk (blk_below BK252.out hb); have n1_ := Aside0.mk (below_step HB.out hb); have n2_ := Aside0.mk (hbox); have n3_ := Aside0.mk ((by rw [hg]; exact (below_size HB.out) : w.heap.size ≤ gb253)); have n4_ := Aside0.mk ((by rw [hg]; exact (below_size HB.out) : w.heap.size ≤ gb253)); have n5_ := Aside0.mk ((by rw [hg]; exact Nat.ne_of_lt (blk_lt BK252.out) : gb252 ≠ gb253)); have n6_ := Aside0.mk ((by rw [hg]; exact Nat.ne_of_gt (blk_lt BK252.out) : gb253 ≠ gb252)); clear BK252; clear HB; have BK252 := n0_; have HB := n1_; have BK253 := n2_; have GW253 := n3_; have GE253 := n4_; have NB252_253 := n5_; have NB253_252 := n6_; clear n0_ n1_ n2_ n3_ n4_ n5_ n6_; clear hb hbox hg) | ((with_reducible refine gate_dst (N := 5) rfl ?_); refine box_event ?hg (N := 5) ?hd (cs := #[.int .i64 a2_0, .int .i64 a2_1, .int .i64 a2_2]) (t := 47) ?hr ?_; (case hd => rfl); (case hg => rfl); (case hr => first | (go_simp; done) | (go_simp; rfl)); intro gb254 hg w41 hbox hb; have n0_ := Aside0.mk (blk_below BK252.out hb); have n1_ := Aside0.mk (blk_below BK253.out hb); have n2_ := Aside0.mk (below_step HB.out hb); have n3_ := Aside0.mk (hbox); have n4_ := Aside0.mk ((by rw [hg]; exact (below_size HB.out) : w.heap.size ≤ gb254)); have n5_ := Aside0.mk ((by rw [hg]; exact (below_size HB.out) : w.heap.size ≤ gb254)); have n6_ := Aside0.mk ((by rw [hg]; exact Nat.ne_of_lt (blk_lt BK252.out) : gb252 ≠ gb254)); have n7_ := Aside0.mk ((by rw [hg]; exact Nat.ne_of_gt (blk_lt BK252.out) : gb254 ≠ gb252)); have n8_ := Aside0.mk ((by rw [hg]; exact Nat.ne_of_lt (blk_lt BK253.out) : gb253 ≠ gb254)); have n9_ := Aside0.mk ((by rw [hg]; exact Nat.ne_of_gt (blk_lt BK253.out) : gb254 ≠ gb253)); clear BK252; clear BK253; clear HB; have BK252 := n0_; have BK253 := n1_; have HB := n2_; have BK254 := n3_; have GW254 := n4_; have GE254 := n5_; have NB252_254 := n6_; have NB254_252 := n7_; have NB253_254 := n8_; have NB254_253 := n9_; clear n0_ n1_ n2_ n3_ n4_ n5_ n6_ n7_ n8_ n9_; clear hb hbox hg) | ((with_reducible refine gate_dst (N := 6) rfl ?_); refine box_event ?hg (N := 6) ?hd (cs := #[.int .i64 0, .int .i64 0, .int .i64 0]) (t := 47) ?hr ?_; (case hd => rfl); (case hg => rfl); (case hr => first | (go_simp; done) | (go_simp; rfl)); intro gb255 hg w42 hbox hb; have n0_ := Aside0.mk (blk_below BK252.out hb); have n1_ := Aside0.mk (blk_below BK253.out hb); have n2_ := Aside0.mk (blk_below BK254.out hb); have n3_ := Aside0.mk (below_step HB.out hb); have n4_ := Aside0.mk (hbox); have n5_ := Aside0.mk ((by rw [hg]; exact (below_size HB.out) : w.heap.size ≤ gb255)); have n6_ := Aside0.mk ((by rw [hg]; exact (below_size HB.out) : w.heap.size ≤ gb255)); have n7_ := Aside0.mk ((by rw [hg]; exact Nat.ne_of_lt (blk_lt BK252.out) : gb252 ≠ gb255)); have n8_ := Aside0.mk ((by rw [hg]; exact Nat.ne_of_gt (blk_lt BK252.out) : gb255 ≠ gb252)); have n9_ := Aside0.mk ((by rw [hg]; exact Nat.ne_of_lt (blk_lt BK253.out) : gb253 ≠ gb255)); have n10_ := Aside0.mk ((by rw [hg]; exact Nat.ne_of_gt (blk_lt BK253.out) : gb255 ≠ gb253)); have n11_ := Aside0.mk ((by rw [hg]; exact Nat.ne_of_lt (blk_lt BK254.out) : gb254 ≠ gb255)); have n12_ := Aside0.mk ((by rw [hg]; exact Nat.ne_of_gt (blk_lt BK254.out) : gb255 ≠ gb254)); clear BK252; clear BK253; clear BK254; clear HB; have BK252 := n0_; have BK253 := n1_; have BK254 := n2_; have HB := n3_; have BK255 := n4_; have GW255 := n5_; have GE255 := n6_; have NB252_255 := n7_; have NB255_252 := n8_; have NB253_255 := n9_; have NB255_253 := n10_; have NB254_255 := n11_; have NB255_254 := n12_; clear n0_ n1_ n2_ n3_ n4_ n5_ n6_ n7_ n8_ n9_ n10_ n11_ n12_; clear hb hbox hg; have hnb43 := NB252_253.out; have hnc43 := NB253_252.out; have hnb44 := NB252_254.out; have hnc44 := NB254_252.out; have hnb45 := NB252_255.out; have hnc45 := NB255_252.out; have hcz46_0 := blk_c BK252.out 0 rfl; have hcz46_1 := blk_c BK252.out 1 rfl; have hfz46_0 := blk_frozen BK252.out 0; have hfz46_1 := blk_frozen BK252.out 1; have hnb47 := NB253_254.out; have hnc47 := NB254_253.out; have hnb48 := NB253_255.out; have hnc48 := NB255_253.out; have hcz49_0 := blk_c BK253.out 0 rfl; have hcz49_1 := blk_c BK253.out 1 rfl; have hcz49_2 := blk_c BK253.out 2 rfl; have hcz49_3 := blk_c BK253.out 3 rfl; have hfz49_0 := blk_frozen BK253.out 0; have hfz49_1 := blk_frozen BK253.out 1; have hfz49_2 := blk_frozen BK253.out 2; have hfz49_3 := blk_frozen BK253.out 3; have hnb50 := NB254_255.out; have hnc50 := NB255_254.out; have hcz51_0 := blk_c BK254.out 0 rfl; have hcz51_1 := blk_c BK254.out 1 rfl; have hcz51_2 := blk_c BK254.out 2 rfl; have hfz51_0 := blk_frozen BK254.out 0; have hfz51_1 := blk_frozen BK254.out 1; have hfz51_2 := blk_frozen BK254.out 2) | ((with_reducible refine gate_callee (f := 35) rfl ?_); refine goesL_ (some 32) rfl rfl Tryz.func35 (by kernel_rfl) rfl #[.agg #[.int .i64 a1_0, .int .i64 a1_1, .int .i8 a1_2, .int .i8 a1_3], .agg #[.int .i64 a2_0, .int .i64 a2_1, .int .i64 a2_2], .int .i64 a0_1] rfl (by (try simp only [List.map_toArray, List.map_cons, List.map_nil]); first | done | rfl | (simp only [List.length_drop, List.length_take]; rfl)) ?_; (with_reducible refine (impl_Replenish.calls a1_0 a1_1 a1_2 a1_3 a2_0 a2_1 a2_2 a0_1 t264 t265 t266 t267 _ A38.out).mono ?_); rintro e w52 ⟨rfl, hb⟩; refine ⟨_, rfl, ?_⟩; have n0_ := Aside0.mk (blk_below BK252.out hb); have n1_ := Aside0.mk (blk_below BK253.out hb); have n2_ := Aside0.mk (blk_below BK254.out hb); have n3_ := Aside0.mk (blk_below BK255.out hb); have n4_ := Aside0.mk (below_step HB.out hb); clear BK252; clear BK253; clear BK254; clear BK255; clear HB; have BK252 := n0_; have BK253 := n1_; have BK254 := n2_; have BK255 := n3_; have HB := n4_; clear n0_ n1_ n2_ n3_ n4_; (try clear hb); (try clear hb2); (try clear hk); (try clear hi); have hcz53_0 := blk_c BK255.out 0 rfl; have hcz53_1 := blk_c BK255.out 1 rfl; have hcz53_2 := blk_c BK255.out 2 rfl; have hfz53_0 := blk_frozen BK255.out 0; have hfz53_1 := blk_frozen BK255.out 1; have hfz53_2 := blk_frozen BK255.out 2))
   refine bodyPost_ret (results_ct rfl _ _ gb255 47 #[.int .i64 t264, .int .i64 t265, .int .i64 t266] (0, 0) _ rfl (by (with_reducible repeat (first | refine blk_drewN ?_ _ | refine blk_drew ?_ | refine blk_alloc ?_ _)); refine blk_put (cs := #[.int .i64 t264, .int .i64 t265, .int .i64 0]) ?_ 2 _ rfl; (with_reducible repeat (first | refine blk_drewN ?_ _ | refine blk_drew ?_ | refine blk_alloc ?_ _)); refine blk_put (cs := #[.int .i64 t264, .int .i64 0, .int .i64 0]) ?_ 1 _ rfl; (with_reducible repeat (first | refine blk_drewN ?_ _ | refine blk_drew ?_ | refine blk_alloc ?_ _)); refine blk_put (cs := #[.int .i64 0, .int .i64 0, .int .i64 0]) ?_ 0 _ rfl; (with_reducible repeat (first | refine blk_drewN ?_ _ | refine blk_drew ?_ | refine blk_alloc ?_ _)); exact BK255.out) Tryz.underlying47 rfl (by kernel_rfl)) rfl ?_
   exact ⟨by first | rfl | (simp [errW_none, errW_some] <;> rfl) | (simp [*, errW_none, errW_some] <;> rfl), by repeat (first | (with_reducible first | exact HB.out | apply below_alloc | apply pw_below_drewN | apply below_drew1 | refine below_set ?_ GE252.out | refine below_set ?_ GE253.out | refine below_set ?_ GE254.out | refine below_set ?_ GE255.out) | exact HB.out)⟩

/-! ### impl_doAll: function 88 -/
def impl_doAll.l0 : Nat → List (S65) → List Int → List (S65) → Int → Int → Int → Int → Int → Int → Int → Int → Int → Option (Int × Int × Int × Int × List Int × Int)
 | 0, _, _, _, _, _, _, _, _, _, _, _, _ => none
 | k + 1, x2, x10, x19, x20, x21, x269000, x269001, x269002, x269003, x270000, x270001, x270002 => if x21 < x20 then (if 0 ≤ x21 then (if x21 < (x19.length : Int) then ((impl_Act_do.f k ((rd_T65 x19 x21).f0) ((rd_T65 x19 x21).f1) x269000 x269001 x269002 x269003 x270000 x270001 x270002).bind fun bt277 => (if bt277.2.2.2 = 0 then ((impl_Bath_strength.f bt277.1 bt277.2.1 bt277.2.2.1 x269000 x269001 x269002 x269003).bind fun t282 => (if x10.length < 17592186044416 then (impl_doAll.l0 k x2 (x10 ++ [t282]) x19 x20 (wrap64 (x21 + 1)) x269000 x269001 x269002 x269003 bt277.1 bt277.2.1 bt277.2.2.1) else (none))) else (some (x270000, x270001, x270002, x21, x10, bt277.2.2.2)))) else (none)) else (none)) else (some (x270000, x270001, x270002, (x2.length : Int), x10, 0))
def impl_doAll.f (k : Nat) (a0_0 : Int) (a0_1 : Int) (a0_2 : Int) (a0_3 : Int) (a1_0 : Int) (a1_1 : Int) (a1_2 : Int) (l2 : List (S65)) : Option (Int × Int × Int × Int × List Int × Int) := (impl_Bath_strength.f a1_0 a1_1 a1_2 a0_0 a0_1 a0_2 a0_3).bind fun t271 => (impl_doAll.l0 k l2 (([t271] : List Int)) l2 (l2.length : Int) 0 a0_0 a0_1 a0_2 a0_3 a1_0 a1_1 a1_2)
theorem impl_doAll.mono_l : ∀ k, (∀ y0 y1 y2 y3 y4 y5 y6 y7 y8 y9 y10 y11, LeO (impl_doAll.l0 k y0 y1 y2 y3 y4 y5 y6 y7 y8 y9 y10 y11) (impl_doAll.l0 (k + 1) y0 y1 y2 y3 y4 y5 y6 y7 y8 y9 y10 y11))
 | 0 => fun _ _ _ _ _ _ _ _ _ _ _ _ r h => by simp [impl_doAll.l0] at h
 | k + 1 => by
  have ih0 := impl_doAll.mono_l k
  ·intro y0 y1 y2 y3 y4 y5 y6 y7 y8 y9 y10 y11
   unfold impl_doAll.l0
   repeat' first
   | (with_reducible exact ih0 _ _ _ _ _ _ _ _ _ _ _ _)
   | (with_reducible exact impl_Act_do.mono _ _ _ _ _ _ _ _ _ _)
   | (with_reducible exact LeO.refl _)
   | (with_reducible exact LeO.none _)
   | (with_reducible refine LeO.ite ?_ ?_)
   | (with_reducible refine LeO.bind ?_ (fun _ => ?_))
   | exact ih0 _ _ _ _ _ _ _ _ _ _ _ _
   | exact impl_Act_do.mono _ _ _ _ _ _ _ _ _ _
   | exact LeO.none _
   | refine LeO.ite ?_ ?_
   | refine LeO.bind ?_ (fun _ => ?_)
theorem impl_doAll.mono : ∀ a0 a1 a2 a3 a4 a5 a6 a7 k, LeO (impl_doAll.f k a0 a1 a2 a3 a4 a5 a6 a7) (impl_doAll.f (k + 1) a0 a1 a2 a3 a4 a5 a6 a7) := by
 intro a0 a1 a2 a3 a4 a5 a6 a7 k
 have ih0 := impl_doAll.mono_l k
 unfold impl_doAll.f
 repeat' first
   | (with_reducible exact ih0 _ _ _ _ _ _ _ _ _ _ _ _)
   | (with_reducible exact impl_Act_do.mono _ _ _ _ _ _ _ _ _ _)
   | (with_reducible exact LeO.refl _)
   | (with_reducible exact LeO.none _)
   | (with_reducible refine LeO.ite ?_ ?_)
   | (with_reducible refine LeO.bind ?_ (fun _ => ?_))
   | exact ih0 _ _ _ _ _ _ _ _ _ _ _ _
   | exact impl_Act_do.mono _ _ _ _ _ _ _ _ _ _
   | exact LeO.none _
   | refine LeO.ite ?_ ?_
   | refine LeO.bind ?_ (fun _ => ?_)
set_option maxHeartbeats 8000000 in
set_option maxRecDepth 100000 in
theorem impl_doAll.calls (k : Nat) (a0_0 : Int) (a0_1 : Int) (a0_2 : Int) (a0_3 : Int) (a1_0 : Int) (a1_1 : Int) (a1_2 : Int) (A2 : Option Addr) (c2 : Nat) (l2 : List (S65)) (r1 : Int) (r2 : Int) (r3 : Int) (r4 : Int) (r5 : List Int) (r6 : Int) (w : World) (hr2 : Kd.C k65 w A2 l2.length l2) (hc2 : l2.length ≤ c2) (h : impl_doAll.f k a0_0 a0_1 a0_2 a0_3 a1_0 a1_1 a1_2 l2 = some (r1, r2, r3, r4, r5, r6)) :
  Calls Tryz.prog 88 #[.agg #[.int .i64 a0_0, .int .i64 a0_1, .int .i8 a0_2, .int .i8 a0_3], .agg #[.int .i64 a1_0, .int .i64 a1_1, .int .i64 a1_2], .slice A2 l2.length c2] w fun e w' => ∃ v4_ : Value, e = .returned (.tuple #[.agg #[.int .i64 r1, .int .i64 r2, .int .i64 r3], .int .i64 r4, v4_, .int .i64 r6]) ∧ Kd.R (Kd.int .i64) 2 w' w.heap.size (fun _ => True) v4_ r5 ∧ Below w.heap.size w w' := by
 have hu45 := Tryz.underlying45
 have hu47 := Tryz.underlying47
 have hu65 := Tryz.underlying65
 have HR2 := Aside0.mk hr2
 have HC2 := Aside0.mk hc2
 clear hr2 hc2
 have HB := Aside0.mk (Below.refl w.heap.size w)
 have H : ((impl_Bath_strength.f a1_0 a1_1 a1_2 a0_0 a0_1 a0_2 a0_3).bind fun t271 => (impl_doAll.l0 k l2 (([t271] : List Int)) l2 (l2.length : Int) 0 a0_0 a0_1 a0_2 a0_3 a1_0 a1_1 a1_2)) = some (r1, r2, r3, r4, r5, r6) := h
 clear h
 replace H := Option.bind_eq_some_iff.mp H
 obtain ⟨t271, A40, H⟩ := H
 replace H : (impl_doAll.l0 k l2 (([t271] : List Int)) l2 (l2.length : Int) 0 a0_0 a0_1 a0_2 a0_3 a1_0 a1_1 a1_2) = some (r1, r2, r3, r4, r5, r6) := H
 have A4 := Aside0.mk A40
 clear A40
 obtain ⟨y272, hy272⟩ : ∃ y_ : List Int, y_ = (([t271] : List Int)) := ⟨_, rfl⟩
 replace H : (impl_doAll.l0 k l2 y272 l2 (l2.length : Int) 0 a0_0 a0_1 a0_2 a0_3 a1_0 a1_1 a1_2) = some (r1, r2, r3, r4, r5, r6) := by first | (rw [hy272]; with_reducible exact H) | (have H2_ := (Option.bind_some _ _).symm.trans H; rw [hy272]; with_reducible exact H2_) | (have H2_ := (Option.bind_some _ _).symm.trans H; with_reducible exact H2_) | with_reducible exact H | (rw [hy272]; exact H) | exact H
 have Ny272 := Aside0.mk hy272
 clear hy272
 have H' := Aside0.mk H
 clear H
 go_enter Tryz.func88, Tryz.ntmps88
 go_wp2_with (first | ((with_reducible refine gate_dst (N := 3) rfl ?_); refine box_event ?hg (N := 3) ?hd (cs := #[.int .i64 a0_0, .int .i64 a0_1, .int .i8 a0_2, .int .i8 a0_3]) (t := 45) ?hr ?_; (case hd => rfl); (case hg => rfl); (case hr => first | (go_simp; done) | (go_simp; rfl)); intro gb268 hg w5 hbox hb; have n0_ := Aside0.mk (below_step (by repeat (first | (with_reducible first | exact HB.out | apply below_alloc | apply pw_below_drewN | apply below_drew1) | exact HB.out)) hb); have n1_ := Aside0.mk (hbox); have n2_ := Aside0.mk ((by rw [hg]; exact (below_size (by repeat (first | (with_reducible first | exact HB.out | apply below_alloc | apply pw_below_drewN | apply below_drew1) | exact HB.out))) : w.heap.size ≤ gb268)); have n3_ := Aside0.mk ((by rw [hg]; exact (below_size (by repeat (first | (with_reducible first | exact HB.out | apply below_alloc | apply pw_below_drewN | apply below_drew1) | exact HB.out))) : w.heap.size ≤ gb268)); clear HB; have HB := n0_; have BK268 := n1_; have GW268 := n2_; have GE268 := n3_; clear n0_ n1_ n2_ n3_; clear hb hbox hg) | ((with_reducible refine gate_dst (N := 4) rfl ?_); refine box_event ?hg (N := 4) ?hd (cs := #[.int .i64 a1_0, .int .i64 a1_1, .int .i64 a1_2]) (t := 47) ?hr ?_; (case hd => rfl); (case hg => rfl); (case hr => first | (go_simp; done) | (go_simp; rfl)); intro gb269 hg w6 hbox hb; have n0_ := Aside0.mk (blk_below (g := gb268) (o := .cells #[.int .i64 a0_0, .int .i64 a0_1, .int .i8 a0_2, .int .i8 a0_3] 45 (0, 0)) (by (with_reducible repeat (first | refine blk_drewN ?_ _ | refine blk_drew ?_ | refine blk_alloc ?_ _)); exact BK268.out) hb); have n1_ := Aside0.mk (below_step (by repeat (first | (with_reducible first | exact HB.out | apply below_alloc | apply pw_below_drewN | apply below_drew1 | refine below_set ?_ GE268.out) | exact HB.out)) hb); have n2_ := Aside0.mk (hbox); have n3_ := Aside0.mk ((by rw [hg]; exact (below_size (by repeat (first | (with_reducible first | exact HB.out | apply below_alloc | apply pw_below_drewN | apply below_drew1 | refine below_set ?_ GE268.out) | exact HB.out))) : w.heap.size ≤ gb269)); have n4_ := Aside0.mk ((by rw [hg]; exact (below_size (by repeat (first | (with_reducible first | exact HB.out | apply below_alloc | apply pw_below_drewN | apply below_drew1 | refine below_set ?_ GE268.out) | exact HB.out))) : w.heap.size ≤ gb269)); have n5_ := Aside0.mk ((by rw [hg]; exact Nat.ne_of_lt (blk_lt (g := gb268) (o := .cells #[.int .i64 a0_0, .int .i64 a0_1, .int .i8 a0_2, .int .i8 a0_3] 45 (0, 0)) (by (with_reducible repeat (first | refine blk_drewN ?_ _ | refine blk_drew ?_ | refine blk_alloc ?_ _)); exact BK268.out)) : gb268 ≠ gb269)); have n6_ := Aside0.mk ((by rw [hg]; exact Nat.ne_of_gt (blk_lt (g := gb268) (o := .cells #[.int .i64 a0_0, .int .i64 a0_1, .int .i8 a0_2, .int .i8 a0_3] 45 (0, 0)) (by (with_reducible repeat (first | refine blk_drewN ?_ _ | refine blk_drew ?_ | refine blk_alloc ?_ _)); exact BK268.out)) : gb269 ≠ gb268)); clear BK268; clear HB; have BK268 := n0_; have HB := n1_; have BK269 := n2_; have GW269 := n3_; have GE269 := n4_; have NB268_269 := n5_; have NB269_268 := n6_; clear n0_ n1_ n2_ n3_ n4_ n5_ n6_; clear hb hbox hg) | ((with_reducible refine gate_dst (N := 6) rfl ?_); refine box_event ?hg (N := 6) ?hd (cs := #[.int .i64 0, .int .i64 0, .int .i64 0]) (t := 47) ?hr ?_; (case hd => rfl); (case hg => rfl); (case hr => first | (go_simp; done) | (go_simp; rfl)); intro gb270 hg w7 hbox hb; have n0_ := Aside0.mk (blk_below (g := gb268) (o := .cells #[.int .i64 a0_0, .int .i64 a0_1, .int .i8 a0_2, .int .i8 a0_3] 45 (0, 0)) (by (with_reducible repeat (first | refine blk_drewN ?_ _ | refine blk_drew ?_ | refine blk_alloc ?_ _)); exact BK268.out) hb); have n1_ := Aside0.mk (blk_below (g := gb269) (o := .cells #[.int .i64 a1_0, .int .i64 a1_1, .int .i64 a1_2] 47 (0, 0)) (by (with_reducible repeat (first | refine blk_drewN ?_ _ | refine blk_drew ?_ | refine blk_alloc ?_ _)); exact BK269.out) hb); have n2_ := Aside0.mk (below_step (by repeat (first | (with_reducible first | exact HB.out | apply below_alloc | apply pw_below_drewN | apply below_drew1 | refine below_set ?_ GE268.out | refine below_set ?_ GE269.out) | exact HB.out)) hb); have n3_ := Aside0.mk (hbox); have n4_ := Aside0.mk ((by rw [hg]; exact (below_size (by repeat (first | (with_reducible first | exact HB.out | apply below_alloc | apply pw_below_drewN | apply below_drew1 | refine below_set ?_ GE268.out | refine below_set ?_ GE269.out) | exact HB.out))) : w.heap.size ≤ gb270)); have n5_ := Aside0.mk ((by rw [hg]; exact (below_size (by repeat (first | (with_reducible first | exact HB.out | apply below_alloc | apply pw_below_drewN | apply below_drew1 | refine below_set ?_ GE268.out | refine below_set ?_ GE269.out) | exact HB.out))) : w.heap.size ≤ gb270)); have n6_ := Aside0.mk ((by rw [hg]; exact Nat.ne_of_lt (blk_lt (g := gb268) (o := .cells #[.int .i64 a0_0, .int .i64 a0_1, .int .i8 a0_2, .int .i8 a0_3] 45 (0, 0)) (by (with_reducible repeat (first | refine blk_drewN ?_ _ | refine blk_drew ?_ | refine blk_alloc ?_ _)); exact BK268.out)) : gb268 ≠ gb270)); have n7_ := Aside0.mk ((by rw [hg]; exact Nat.ne_of_gt (blk_lt (g := gb268) (o := .cells #[.int .i64 a0_0, .int .i64 a0_1, .int .i8 a0_2, .int .i8 a0_3] 45 (0, 0)) (by (with_reducible repeat (first | refine blk_drewN ?_ _ | refine blk_drew ?_ | refine blk_alloc ?_ _)); exact BK268.out)) : gb270 ≠ gb268)); have n8_ := Aside0.mk ((by rw [hg]; exact Nat.ne_of_lt (blk_lt (g := gb269) (o := .cells #[.int .i64 a1_0, .int .i64 a1_1, .int .i64 a1_2] 47 (0, 0)) (by (with_reducible repeat (first | refine blk_drewN ?_ _ | refine blk_drew ?_ | refine blk_alloc ?_ _)); exact BK269.out)) : gb269 ≠ gb270)); have n9_ := Aside0.mk ((by rw [hg]; exact Nat.ne_of_gt (blk_lt (g := gb269) (o := .cells #[.int .i64 a1_0, .int .i64 a1_1, .int .i64 a1_2] 47 (0, 0)) (by (with_reducible repeat (first | refine blk_drewN ?_ _ | refine blk_drew ?_ | refine blk_alloc ?_ _)); exact BK269.out)) : gb270 ≠ gb269)); clear BK268; clear BK269; clear HB; have BK268 := n0_; have BK269 := n1_; have HB := n2_; have BK270 := n3_; have GW270 := n4_; have GE270 := n5_; have NB268_270 := n6_; have NB270_268 := n7_; have NB269_270 := n8_; have NB270_269 := n9_; clear n0_ n1_ n2_ n3_ n4_ n5_ n6_ n7_ n8_ n9_; clear hb hbox hg; have hnb8 := NB269_268.out; have hnc8 := NB268_269.out; have hnb9 := NB269_270.out; have hnc9 := NB270_269.out; have hcz10_0 : w7.cell? ⟨gb269, 0, none⟩ = some (.int .i64 a1_0) := (blk_cell BK269.out 0).trans rfl; have hcz10_1 : w7.cell? ⟨gb269, 1, none⟩ = some (.int .i64 a1_1) := (blk_cell BK269.out 1).trans rfl; have hcz10_2 : w7.cell? ⟨gb269, 2, none⟩ = some (.int .i64 a1_2) := (blk_cell BK269.out 2).trans rfl; have hfz10_0 := blk_frozen BK269.out 0; have hfz10_1 := blk_frozen BK269.out 1; have hfz10_2 := blk_frozen BK269.out 2; have hnb11 := NB268_270.out; have hnc11 := NB270_268.out; have hcz12_0 : w7.cell? ⟨gb268, 0, none⟩ = some (.int .i64 a0_0) := (blk_cell BK268.out 0).trans rfl; have hcz12_1 : w7.cell? ⟨gb268, 1, none⟩ = some (.int .i64 a0_1) := (blk_cell BK268.out 1).trans rfl; have hcz12_2 : w7.cell? ⟨gb268, 2, none⟩ = some (.int .i8 a0_2) := (blk_cell BK268.out 2).trans rfl; have hcz12_3 : w7.cell? ⟨gb268, 3, none⟩ = some (.int .i8 a0_3) := (blk_cell BK268.out 3).trans rfl; have hfz12_0 := blk_frozen BK268.out 0; have hfz12_1 := blk_frozen BK268.out 1; have hfz12_2 := blk_frozen BK268.out 2; have hfz12_3 := blk_frozen BK268.out 3) | ((with_reducible refine gate_callee (f := 96) rfl ?_); refine goesL_ (some 17) rfl rfl Tryz.func96 (by kernel_rfl) rfl #[.agg #[.int .i64 a1_0, .int .i64 a1_1, .int .i64 a1_2], .agg #[.int .i64 a0_0, .int .i64 a0_1, .int .i8 a0_2, .int .i8 a0_3]] rfl (by (try simp only [List.map_toArray, List.map_cons, List.map_nil]); first | done | rfl | (simp only [List.length_drop, List.length_take]; rfl)) ?_; (with_reducible refine (impl_Bath_strength.calls a1_0 a1_1 a1_2 a0_0 a0_1 a0_2 a0_3 t271 _ A4.out).mono ?_); rintro e w13 ⟨rfl, hb⟩; refine ⟨_, rfl, ?_⟩; have n0_ := Aside0.mk (blk_below (g := gb268) (o := .cells #[.int .i64 a0_0, .int .i64 a0_1, .int .i8 a0_2, .int .i8 a0_3] 45 (0, 0)) (by (with_reducible repeat (first | refine blk_drewN ?_ _ | refine blk_drew ?_ | refine blk_alloc ?_ _)); exact BK268.out) hb); have n1_ := Aside0.mk (blk_below (g := gb269) (o := .cells #[.int .i64 a1_0, .int .i64 a1_1, .int .i64 a1_2] 47 (0, 0)) (by (with_reducible repeat (first | refine blk_drewN ?_ _ | refine blk_drew ?_ | refine blk_alloc ?_ _)); exact BK269.out) hb); have n2_ := Aside0.mk (blk_below (g := gb270) (o := .cells #[.int .i64 0, .int .i64 0, .int .i64 0] 47 (0, 0)) (by (with_reducible repeat (first | refine blk_drewN ?_ _ | refine blk_drew ?_ | refine blk_alloc ?_ _)); exact BK270.out) hb); have n3_ := Aside0.mk (below_step (by repeat (first | (with_reducible first | exact HB.out | apply below_alloc | apply pw_below_drewN | apply below_drew1 | refine below_set ?_ GE268.out | refine below_set ?_ GE269.out | refine below_set ?_ GE270.out) | exact HB.out)) hb); clear BK268; clear BK269; clear BK270; clear HB; have BK268 := n0_; have BK269 := n1_; have BK270 := n2_; have HB := n3_; clear n0_ n1_ n2_ n3_; (try clear hb); (try clear hb2); (try clear hk); (try clear hi)) | ((with_reducible refine gate_dst (N := 18) rfl ?_); refine Kd.R_lit (Kd.int .i64) _ 2 ?hg (N := 18) ?hd (xs := ([t271] : List Int)) (inner := [.int .i64 t271]) (ok := fun _ => True) (okp := fun _ => True) ?hr ?hp (fun _ hk => hk) trivial (Below.refl _ _) (Nat.le_refl _) (by simp) ?_; (case hd => rfl); (case hg => rfl); (case hr => first | (go_simp; done) | (go_simp; rfl)); (case hp => exact (Reps.one (show Kd.M (Kd.int .i64) _ _ _ t271 [.int .i64 t271] from rfl) (Reps.none _ _))); intro v273 w14 ho15 hb hg_ hnew_; clear hg_ hnew_; (first | rw [← Ny272.out] at ho15 | (simp only [Int.reduceToNat] at ho15; rw [← Ny272.out] at ho15)); have n0_ := Aside0.mk (Kd.R_lower ho15 (below_size (by repeat (first | (with_reducible first | exact HB.out | apply below_alloc | apply pw_below_drewN | apply below_drew1 | refine below_set ?_ GE268.out | refine below_set ?_ GE269.out | refine below_set ?_ GE270.out) | exact HB.out)))); have n1_ := Aside0.mk (blk_below (g := gb268) (o := .cells #[.int .i64 a0_0, .int .i64 a0_1, .int .i8 a0_2, .int .i8 a0_3] 45 (0, 0)) (by (with_reducible repeat (first | refine blk_drewN ?_ _ | refine blk_drew ?_ | refine blk_alloc ?_ _)); exact BK268.out) hb); have n2_ := Aside0.mk (blk_below (g := gb269) (o := .cells #[.int .i64 a1_0, .int .i64 a1_1, .int .i64 a1_2] 47 (0, 0)) (by (with_reducible repeat (first | refine blk_drewN ?_ _ | refine blk_drew ?_ | refine blk_alloc ?_ _)); exact BK269.out) hb); have n3_ := Aside0.mk (blk_below (g := gb270) (o := .cells #[.int .i64 0, .int .i64 0, .int .i64 0] 47 (0, 0)) (by (with_reducible repeat (first | refine blk_drewN ?_ _ | refine blk_drew ?_ | refine blk_alloc ?_ _)); exact BK270.out) hb); have n4_ := Aside0.mk (below_step (by repeat (first | (with_reducible first | exact HB.out | apply below_alloc | apply pw_below_drewN | apply below_drew1 | refine below_set ?_ GE268.out | refine below_set ?_ GE269.out | refine below_set ?_ GE270.out) | exact HB.out)) hb); clear BK268; clear BK269; clear BK270; clear HB; have HO274 := n0_; have BK268 := n1_; have BK269 := n2_; have BK270 := n3_; have HB := n4_; clear n0_ n1_ n2_ n3_ n4_; clear hb ho15))
 go_loopg [10, 21] k (fun kq v10 v21 w' => ∃ (x10_1 : List Int) (x21_1 : Int) (x270000_1 : Int) (x270001_1 : Int) (x270002_1 : Int) (x271000_1 : Int) (x271001_1 : Int) (x271002_1 : Int), v21 = .int .i64 x21_1 ∧ Aside0 (impl_doAll.l0 kq l2 x10_1 l2 (l2.length : Int) x21_1 a0_0 a0_1 a0_2 a0_3 x270000_1 x270001_1 x270002_1 = some (r1, r2, r3, r4, r5, r6)) ∧ Aside0 (kq ≤ k) ∧ Aside0 (Kd.R (Kd.int .i64) 2 w' w.heap.size (fun _ => True) v10 x10_1) ∧ Aside0 (w'.heap[gb268]? = some (.cells #[.int .i64 a0_0, .int .i64 a0_1, .int .i8 a0_2, .int .i8 a0_3] 45 (0, 0))) ∧ Aside0 (w'.heap[gb269]? = some (.cells #[.int .i64 x270000_1, .int .i64 x270001_1, .int .i64 x270002_1] 47 (0, 0))) ∧ Aside0 (w'.heap[gb270]? = some (.cells #[.int .i64 x271000_1, .int .i64 x271001_1, .int .i64 x271002_1] 47 (0, 0))) ∧ Aside0 (Below w.heap.size w w'))
 case atStart => exact ⟨(y272), (0), (a1_0), (a1_1), (a1_2), (0), (0), (0), (by first | rfl | (simp; done) | (simp [*]; done)), H', ⟨Nat.le_refl _⟩, ⟨by (with_reducible repeat (first | apply Kd.R_alloc | apply Kd.R_drewN | apply Kd.R_drew)); exact HO274.out⟩, ⟨by (with_reducible repeat (first | refine blk_drewN ?_ _ | refine blk_drew ?_ | refine blk_alloc ?_ _)); exact BK268.out⟩, ⟨by (with_reducible repeat (first | refine blk_drewN ?_ _ | refine blk_drew ?_ | refine blk_alloc ?_ _)); exact BK269.out⟩, ⟨by (with_reducible repeat (first | refine blk_drewN ?_ _ | refine blk_drew ?_ | refine blk_alloc ?_ _)); exact BK270.out⟩, ⟨by repeat (first | (with_reducible first | exact HB.out | apply below_alloc | apply pw_below_drewN | apply below_drew1 | refine below_set ?_ GE268.out | refine below_set ?_ GE269.out | refine below_set ?_ GE270.out) | exact HB.out)⟩⟩
 case round =>
  clear H'
  try clear c1
  try clear c2
  try clear p2
  try clear c8
  try clear c9
  try clear c11
  try clear hcz10_0
  try clear hcz10_1
  try clear hcz10_2
  try clear hcz12_0
  try clear hcz12_1
  try clear hcz12_2
  try clear hcz12_3
  try clear hfz10_0
  try clear hfz10_1
  try clear hfz10_2
  try clear hfz12_0
  try clear hfz12_1
  try clear hfz12_2
  try clear hfz12_3
  obtain ⟨x10_1, x21_1, x270000_1, x270001_1, x270002_1, x271000_1, x271001_1, x271002_1, rfl, HA, HK1, HO_10, BK268, BK269, BK270, HB⟩ := hrel
  cases gk with
  | zero => exact absurd HA.out (by simp [impl_doAll.l0])
  | succ k1 =>
   have H := HA.out
   clear HA
   simp only [impl_doAll.l0] at H
   by_cases c16 : x21_1 < (l2.length : Int)
   ·rw [if_pos c16] at H
    have c16b0 : decide (x21_1 < (l2.length : Int)) = true := decide_eq_true c16
    clear c16
    by_cases c17 : 0 ≤ x21_1
    ·rw [if_pos c17] at H
     have c17b0 : decide (0 ≤ x21_1) = true := decide_eq_true c17
     clear c17
     by_cases c18 : x21_1 < (l2.length : Int)
     ·rw [if_pos c18] at H
      have c18b0 : decide (x21_1 < (l2.length : Int)) = true := decide_eq_true c18
      clear c18
      replace H := Option.bind_eq_some_iff.mp H
      obtain ⟨⟨t277, t278, t279, t280⟩, A190, H⟩ := H
      replace H : (if t280 = 0 then ((impl_Bath_strength.f t277 t278 t279 a0_0 a0_1 a0_2 a0_3).bind fun t282 => (if x10_1.length < 17592186044416 then (impl_doAll.l0 k1 l2 (x10_1 ++ [t282]) l2 (l2.length : Int) (wrap64 (x21_1 + 1)) a0_0 a0_1 a0_2 a0_3 t277 t278 t279) else (none))) else (some (x270000_1, x270001_1, x270002_1, x21_1, x10_1, t280))) = some (r1, r2, r3, r4, r5, r6) := H
      have A19 := Aside0.mk A190
      clear A190
      by_cases c20 : t280 = 0
      ·rw [if_pos c20] at H
       have c20b0 : (t280 == 0) = true := beq_iff_eq.mpr c20
       have c20b1 : (t280 != 0) = false := bne_eq_false_iff_eq.mpr c20
       clear c20
       replace H := Option.bind_eq_some_iff.mp H
       obtain ⟨t282, A210, H⟩ := H
       replace H : (if x10_1.length < 17592186044416 then (impl_doAll.l0 k1 l2 (x10_1 ++ [t282]) l2 (l2.length : Int) (wrap64 (x21_1 + 1)) a0_0 a0_1 a0_2 a0_3 t277 t278 t279) else (none)) = some (r1, r2, r3, r4, r5, r6) := H
       have A21 := Aside0.mk A210
       clear A210
       by_cases c22 : x10_1.length < 17592186044416
       ·rw [if_pos c22] at H
        have LMc22 := Aside0.mk c22
        clear c22
        obtain ⟨y283, hy283⟩ : ∃ y_ : List Int, y_ = (x10_1 ++ [t282]) := ⟨_, rfl⟩
        replace H : (impl_doAll.l0 k1 l2 y283 l2 (l2.length : Int) (wrap64 (x21_1 + 1)) a0_0 a0_1 a0_2 a0_3 t277 t278 t279) = some (r1, r2, r3, r4, r5, r6) := by first | (rw [hy283]; with_reducible exact H) | (have H2_ := (Option.bind_some _ _).symm.trans H; rw [hy283]; with_reducible exact H2_) | (have H2_ := (Option.bind_some _ _).symm.trans H; with_reducible exact H2_) | with_reducible exact H | (rw [hy283]; exact H) | exact H
        have Ny283 := Aside0.mk hy283
        clear hy283
        have H' := Aside0.mk H
        clear H
        have p275 : 0 ≤ (x21_1 : Int) := of_decide_eq_true (by first | (with_reducible assumption) | assumption)
        have q275 : x21_1 < (l2.length : Int) := of_decide_eq_true (by first | (with_reducible assumption) | assumption)
        obtain ⟨ad275, e275, hx275_0, hx275_1⟩ := at_T65 HR2.out x21_1 p275 q275
        cases e275
        replace hx275_0 := (HB.out.cell (World.block_lt_of_cell? w _ hx275_0)).trans hx275_0
        replace hx275_1 := (HB.out.cell (World.block_lt_of_cell? w _ hx275_1)).trans hx275_1
        replace p275 := eq_true p275
        replace q275 := eq_true q275
        go_wp2_with (first | ((with_reducible refine gate_dst (N := 12) rfl ?_); refine box_event ?hg (N := 12) ?hd (cs := #[.int .i8 0, .int .i64 0]) (t := 65) ?hr ?_; (case hd => rfl); (case hg => rfl); (case hr => first | (go_simp; done) | (go_simp; rfl)); intro gb276 hg w23 hbox hb; have n0_ := Aside0.mk (Kd.R_below (by (with_reducible repeat (first | apply Kd.R_alloc | apply Kd.R_drewN | apply Kd.R_drew)); exact HO_10.out) hb); have n1_ := Aside0.mk (blk_below (g := gb268) (o := .cells #[.int .i64 a0_0, .int .i64 a0_1, .int .i8 a0_2, .int .i8 a0_3] 45 (0, 0)) (by (with_reducible repeat (first | refine blk_drewN ?_ _ | refine blk_drew ?_ | refine blk_alloc ?_ _)); exact BK268.out) hb); have n2_ := Aside0.mk (blk_below (g := gb269) (o := .cells #[.int .i64 x270000_1, .int .i64 x270001_1, .int .i64 x270002_1] 47 (0, 0)) (by (with_reducible repeat (first | refine blk_drewN ?_ _ | refine blk_drew ?_ | refine blk_alloc ?_ _)); exact BK269.out) hb); have n3_ := Aside0.mk (blk_below (g := gb270) (o := .cells #[.int .i64 x271000_1, .int .i64 x271001_1, .int .i64 x271002_1] 47 (0, 0)) (by (with_reducible repeat (first | refine blk_drewN ?_ _ | refine blk_drew ?_ | refine blk_alloc ?_ _)); exact BK270.out) hb); have n4_ := Aside0.mk (below_step (by repeat (first | (with_reducible first | exact HB.out | apply below_alloc | apply pw_below_drewN | apply below_drew1 | refine below_set ?_ GE268.out | refine below_set ?_ GE269.out | refine below_set ?_ GE270.out) | exact HB.out)) hb); have n5_ := Aside0.mk (hbox); have n6_ := Aside0.mk ((by rw [hg]; exact (below_size (by repeat (first | (with_reducible first | exact HB.out | apply below_alloc | apply pw_below_drewN | apply below_drew1 | refine below_set ?_ GE268.out | refine below_set ?_ GE269.out | refine below_set ?_ GE270.out) | exact HB.out))) : w.heap.size ≤ gb276)); have n7_ := Aside0.mk ((by rw [hg]; exact (below_size (by repeat (first | (with_reducible first | exact HB.out | apply below_alloc | apply pw_below_drewN | apply below_drew1 | refine below_set ?_ GE268.out | refine below_set ?_ GE269.out | refine below_set ?_ GE270.out) | exact HB.out))) : w.heap.size ≤ gb276)); have n8_ := Aside0.mk ((by rw [hg]; exact Nat.ne_of_lt (blk_lt (g := gb268) (o := .cells #[.int .i64 a0_0, .int .i64 a0_1, .int .i8 a0_2, .int .i8 a0_3] 45 (0, 0)) (by (with_reducible repeat (first | refine blk_drewN ?_ _ | refine blk_drew ?_ | refine blk_alloc ?_ _)); exact BK268.out)) : gb268 ≠ gb276)); have n9_ := Aside0.mk ((by rw [hg]; exact Nat.ne_of_gt (blk_lt (g := gb268) (o := .cells #[.int .i64 a0_0, .int .i64 a0_1, .int .i8 a0_2, .int .i8 a0_3] 45 (0, 0)) (by (with_reducible repeat (first | refine blk_drewN ?_ _ | refine blk_drew ?_ | refine blk_alloc ?_ _)); exact BK268.out)) : gb276 ≠ gb268)); have n10_ := Aside0.mk ((by rw [hg]; exact Nat.ne_of_lt (blk_lt (g := gb269) (o := .cells #[.int .i64 x270000_1, .int .i64 x270001_1, .int .i64 x270002_1] 47 (0, 0)) (by (with_reducible repeat (first | refine blk_drewN ?_ _ | refine blk_drew ?_ | refine blk_alloc ?_ _)); exact BK269.out)) : gb269 ≠ gb276)); have n11_ := Aside0.mk ((by rw [hg]; exact Nat.ne_of_gt (blk_lt (g := gb269) (o := .cells #[.int .i64 x270000_1, .int .i64 x270001_1, .int .i64 x270002_1] 47 (0, 0)) (by (with_reducible repeat (first | refine blk_drewN ?_ _ | refine blk_drew ?_ | refine blk_alloc ?_ _)); exact BK269.out)) : gb276 ≠ gb269)); have n12_ := Aside0.mk ((by rw [hg]; exact Nat.ne_of_lt (blk_lt (g := gb270) (o := .cells #[.int .i64 x271000_1, .int .i64 x271001_1, .int .i64 x271002_1] 47 (0, 0)) (by (with_reducible repeat (first | refine blk_drewN ?_ _ | refine blk_drew ?_ | refine blk_alloc ?_ _)); exact BK270.out)) : gb270 ≠ gb276)); have n13_ := Aside0.mk ((by rw [hg]; exact Nat.ne_of_gt (blk_lt (g := gb270) (o := .cells #[.int .i64 x271000_1, .int .i64 x271001_1, .int .i64 x271002_1] 47 (0, 0)) (by (with_reducible repeat (first | refine blk_drewN ?_ _ | refine blk_drew ?_ | refine blk_alloc ?_ _)); exact BK270.out)) : gb276 ≠ gb270)); clear HO_10; clear BK268; clear BK269; clear BK270; clear HB; have HO_10 := n0_; have BK268 := n1_; have BK269 := n2_; have BK270 := n3_; have HB := n4_; have BK276 := n5_; have GW276 := n6_; have GE276 := n7_; have NB268_276 := n8_; have NB276_268 := n9_; have NB269_276 := n10_; have NB276_269 := n11_; have NB270_276 := n12_; have NB276_270 := n13_; clear n0_ n1_ n2_ n3_ n4_ n5_ n6_ n7_ n8_ n9_ n10_ n11_ n12_ n13_; clear hb hbox hg; have hnb24 := NB276_268.out; have hnc24 := NB268_276.out; have hnb25 := NB276_269.out; have hnc25 := NB269_276.out; have hnb26 := NB276_270.out; have hnc26 := NB270_276.out; have hcz27_0 : w23.cell? ⟨gb276, 0, none⟩ = some (.int .i8 0) := (blk_cell BK276.out 0).trans rfl; have hcz27_1 : w23.cell? ⟨gb276, 1, none⟩ = some (.int .i64 0) := (blk_cell BK276.out 1).trans rfl; have hfz27_0 := blk_frozen BK276.out 0; have hfz27_1 := blk_frozen BK276.out 1; have hnb28 := NB268_269.out; have hnc28 := NB269_268.out; have hnb29 := NB268_270.out; have hnc29 := NB270_268.out; have hcz30_0 : w23.cell? ⟨gb268, 0, none⟩ = some (.int .i64 a0_0) := (blk_cell BK268.out 0).trans rfl; have hcz30_1 : w23.cell? ⟨gb268, 1, none⟩ = some (.int .i64 a0_1) := (blk_cell BK268.out 1).trans rfl; have hcz30_2 : w23.cell? ⟨gb268, 2, none⟩ = some (.int .i8 a0_2) := (blk_cell BK268.out 2).trans rfl; have hcz30_3 : w23.cell? ⟨gb268, 3, none⟩ = some (.int .i8 a0_3) := (blk_cell BK268.out 3).trans rfl; have hfz30_0 := blk_frozen BK268.out 0; have hfz30_1 := blk_frozen BK268.out 1; have hfz30_2 := blk_frozen BK268.out 2; have hfz30_3 := blk_frozen BK268.out 3; have hnb31 := NB269_270.out; have hnc31 := NB270_269.out; have hcz32_0 : w23.cell? ⟨gb269, 0, none⟩ = some (.int .i64 x270000_1) := (blk_cell BK269.out 0).trans rfl; have hcz32_1 : w23.cell? ⟨gb269, 1, none⟩ = some (.int .i64 x270001_1) := (blk_cell BK269.out 1).trans rfl; have hcz32_2 : w23.cell? ⟨gb269, 2, none⟩ = some (.int .i64 x270002_1) := (blk_cell BK269.out 2).trans rfl; have hfz32_0 := blk_frozen BK269.out 0; have hfz32_1 := blk_frozen BK269.out 1; have hfz32_2 := blk_frozen BK269.out 2) | ((with_reducible refine gate_callee (f := 154) rfl ?_); refine goesL_ (some 30) rfl rfl Tryz.func154 (by kernel_rfl) rfl #[.agg #[.int .i8 ((rd_T65 l2 x21_1).f0), .int .i64 ((rd_T65 l2 x21_1).f1)], .agg #[.int .i64 a0_0, .int .i64 a0_1, .int .i8 a0_2, .int .i8 a0_3], .agg #[.int .i64 x270000_1, .int .i64 x270001_1, .int .i64 x270002_1]] rfl (by (try simp only [List.map_toArray, List.map_cons, List.map_nil]); first | done | rfl | (simp only [List.length_drop, List.length_take]; rfl)) ?_; (with_reducible refine (impl_Act_do.calls k1 ((rd_T65 l2 x21_1).f0) ((rd_T65 l2 x21_1).f1) a0_0 a0_1 a0_2 a0_3 x270000_1 x270001_1 x270002_1 t277 t278 t279 t280 _ A19.out).mono ?_); rintro e w33 ⟨rfl, hb⟩; refine ⟨_, rfl, ?_⟩; have n0_ := Aside0.mk (Kd.R_below (by (with_reducible repeat (first | apply Kd.R_alloc | apply Kd.R_drewN | apply Kd.R_drew)); exact (Kd.R_mono (Kd.R_far (p := ⟨gb276, 1, none⟩) (Kd.R_far (p := ⟨gb276, 0, none⟩) (Kd.R_types HO_10.out BK276.out (by decide)) (fun _ hk => hk.2) (.int .i8 ((rd_T65 l2 x21_1).f0))) (fun _ hk => hk.2) (.int .i64 ((rd_T65 l2 x21_1).f1))) (fun _ h_ => h_.1))) hb); have n1_ := Aside0.mk (blk_below (g := gb268) (o := .cells #[.int .i64 a0_0, .int .i64 a0_1, .int .i8 a0_2, .int .i8 a0_3] 45 (0, 0)) (by (with_reducible repeat (first | refine blk_drewN ?_ _ | refine blk_drew ?_ | refine blk_alloc ?_ _)); refine blk_far ?_ NB268_276.out _; (with_reducible repeat (first | refine blk_drewN ?_ _ | refine blk_drew ?_ | refine blk_alloc ?_ _)); refine blk_far ?_ NB268_276.out _; (with_reducible repeat (first | refine blk_drewN ?_ _ | refine blk_drew ?_ | refine blk_alloc ?_ _)); exact BK268.out) hb); have n2_ := Aside0.mk (blk_below (g := gb269) (o := .cells #[.int .i64 x270000_1, .int .i64 x270001_1, .int .i64 x270002_1] 47 (0, 0)) (by (with_reducible repeat (first | refine blk_drewN ?_ _ | refine blk_drew ?_ | refine blk_alloc ?_ _)); refine blk_far ?_ NB269_276.out _; (with_reducible repeat (first | refine blk_drewN ?_ _ | refine blk_drew ?_ | refine blk_alloc ?_ _)); refine blk_far ?_ NB269_276.out _; (with_reducible repeat (first | refine blk_drewN ?_ _ | refine blk_drew ?_ | refine blk_alloc ?_ _)); exact BK269.out) hb); have n3_ := Aside0.mk (blk_below (g := gb270) (o := .cells #[.int .i64 x271000_1, .int .i64 x271001_1, .int .i64 x271002_1] 47 (0, 0)) (by (with_reducible repeat (first | refine blk_drewN ?_ _ | refine blk_drew ?_ | refine blk_alloc ?_ _)); refine blk_far ?_ NB270_276.out _; (with_reducible repeat (first | refine blk_drewN ?_ _ | refine blk_drew ?_ | refine blk_alloc ?_ _)); refine blk_far ?_ NB270_276.out _; (with_reducible repeat (first | refine blk_drewN ?_ _ | refine blk_drew ?_ | refine blk_alloc ?_ _)); exact BK270.out) hb); have n4_ := Aside0.mk (blk_below (g := gb276) (o := .cells #[.int .i8 ((rd_T65 l2 x21_1).f0), .int .i64 ((rd_T65 l2 x21_1).f1)] 65 (0, 0)) (by (with_reducible repeat (first | refine blk_drewN ?_ _ | refine blk_drew ?_ | refine blk_alloc ?_ _)); refine blk_put (cs := #[.int .i8 ((rd_T65 l2 x21_1).f0), .int .i64 0]) ?_ 1 _ rfl; (with_reducible repeat (first | refine blk_drewN ?_ _ | refine blk_drew ?_ | refine blk_alloc ?_ _)); refine blk_put (cs := #[.int .i8 0, .int .i64 0]) ?_ 0 _ rfl; (with_reducible repeat (first | refine blk_drewN ?_ _ | refine blk_drew ?_ | refine blk_alloc ?_ _)); exact BK276.out) hb); have n5_ := Aside0.mk (below_step (by repeat (first | (with_reducible first | exact HB.out | apply below_alloc | apply pw_below_drewN | apply below_drew1 | refine below_set ?_ GE268.out | refine below_set ?_ GE269.out | refine below_set ?_ GE270.out | refine below_set ?_ GE276.out) | exact HB.out)) hb); clear HO_10; clear BK268; clear BK269; clear BK270; clear BK276; clear HB; have HO_10 := n0_; have BK268 := n1_; have BK269 := n2_; have BK270 := n3_; have BK276 := n4_; have HB := n5_; clear n0_ n1_ n2_ n3_ n4_ n5_; (try clear hb); (try clear hb2); (try clear hk); (try clear hi)) | ((with_reducible refine gate_dst (N := 13) rfl ?_); refine box_event ?hg (N := 13) ?hd (cs := #[.int .i64 0, .int .i64 0, .int .i64 0]) (t := 47) ?hr ?_; (case hd => rfl); (case hg => rfl); (case hr => first | (go_simp; done) | (go_simp; rfl)); intro gb281 hg w34 hbox hb; have n0_ := Aside0.mk (Kd.R_below (by (with_reducible repeat (first | apply Kd.R_alloc | apply Kd.R_drewN | apply Kd.R_drew)); exact HO_10.out) hb); have n1_ := Aside0.mk (blk_below (g := gb268) (o := .cells #[.int .i64 a0_0, .int .i64 a0_1, .int .i8 a0_2, .int .i8 a0_3] 45 (0, 0)) (by (with_reducible repeat (first | refine blk_drewN ?_ _ | refine blk_drew ?_ | refine blk_alloc ?_ _)); exact BK268.out) hb); have n2_ := Aside0.mk (blk_below (g := gb269) (o := .cells #[.int .i64 x270000_1, .int .i64 x270001_1, .int .i64 x270002_1] 47 (0, 0)) (by (with_reducible repeat (first | refine blk_drewN ?_ _ | refine blk_drew ?_ | refine blk_alloc ?_ _)); exact BK269.out) hb); have n3_ := Aside0.mk (blk_below (g := gb270) (o := .cells #[.int .i64 x271000_1, .int .i64 x271001_1, .int .i64 x271002_1] 47 (0, 0)) (by (with_reducible repeat (first | refine blk_drewN ?_ _ | refine blk_drew ?_ | refine blk_alloc ?_ _)); exact BK270.out) hb); have n4_ := Aside0.mk (blk_below (g := gb276) (o := .cells #[.int .i8 ((rd_T65 l2 x21_1).f0), .int .i64 ((rd_T65 l2 x21_1).f1)] 65 (0, 0)) (by (with_reducible repeat (first | refine blk_drewN ?_ _ | refine blk_drew ?_ | refine blk_alloc ?_ _)); exact BK276.out) hb); have n5_ := Aside0.mk (below_step (by repeat (first | (with_reducible first | exact HB.out | apply below_alloc | apply pw_below_drewN | apply below_drew1 | refine below_set ?_ GE268.out | refine below_set ?_ GE269.out | refine below_set ?_ GE270.out | refine below_set ?_ GE276.out) | exact HB.out)) hb); have n6_ := Aside0.mk (hbox); have n7_ := Aside0.mk ((by rw [hg]; exact (below_size (by repeat (first | (with_reducible first | exact HB.out | apply below_alloc | apply pw_below_drewN | apply below_drew1 | refine below_set ?_ GE268.out | refine below_set ?_ GE269.out | refine below_set ?_ GE270.out | refine below_set ?_ GE276.out) | exact HB.out))) : w.heap.size ≤ gb281)); have n8_ := Aside0.mk ((by rw [hg]; exact (below_size (by repeat (first | (with_reducible first | exact HB.out | apply below_alloc | apply pw_below_drewN | apply below_drew1 | refine below_set ?_ GE268.out | refine below_set ?_ GE269.out | refine below_set ?_ GE270.out | refine below_set ?_ GE276.out) | exact HB.out))) : w.heap.size ≤ gb281)); have n9_ := Aside0.mk ((by rw [hg]; exact Nat.ne_of_lt (blk_lt (g := gb268) (o := .cells #[.int .i64 a0_0, .int .i64 a0_1, .int .i8 a0_2, .int .i8 a0_3] 45 (0, 0)) (by (with_reducible repeat (first | refine blk_drewN ?_ _ | refine blk_drew ?_ | refine blk_alloc ?_ _)); exact BK268.out)) : gb268 ≠ gb281)); have n10_ := Aside0.mk ((by rw [hg]; exact Nat.ne_of_gt (blk_lt (g := gb268) (o := .cells #[.int .i64 a0_0, .int .i64 a0_1, .int .i8 a0_2, .int .i8 a0_3] 45 (0, 0)) (by (with_reducible repeat (first | refine blk_drewN ?_ _ | refine blk_drew ?_ | refine blk_alloc ?_ _)); exact BK268.out)) : gb281 ≠ gb268)); have n11_ := Aside0.mk ((by rw [hg]; exact Nat.ne_of_lt (blk_lt (g := gb269) (o := .cells #[.int .i64 x270000_1, .int .i64 x270001_1, .int .i64 x270002_1] 47 (0, 0)) (by (with_reducible repeat (first | refine blk_drewN ?_ _ | refine blk_drew ?_ | refine blk_alloc ?_ _)); exact BK269.out)) : gb269 ≠ gb281)); have n12_ := Aside0.mk ((by rw [hg]; exact Nat.ne_of_gt (blk_lt (g := gb269) (o := .cells #[.int .i64 x270000_1, .int .i64 x270001_1, .int .i64 x270002_1] 47 (0, 0)) (by (with_reducible repeat (first | refine blk_drewN ?_ _ | refine blk_drew ?_ | refine blk_alloc ?_ _)); exact BK269.out)) : gb281 ≠ gb269)); have n13_ := Aside0.mk ((by rw [hg]; exact Nat.ne_of_lt (blk_lt (g := gb270) (o := .cells #[.int .i64 x271000_1, .int .i64 x271001_1, .int .i64 x271002_1] 47 (0, 0)) (by (with_reducible repeat (first | refine blk_drewN ?_ _ | refine blk_drew ?_ | refine blk_alloc ?_ _)); exact BK270.out)) : gb270 ≠ gb281)); have n14_ := Aside0.mk ((by rw [hg]; exact Nat.ne_of_gt (blk_lt (g := gb270) (o := .cells #[.int .i64 x271000_1, .int .i64 x271001_1, .int .i64 x271002_1] 47 (0, 0)) (by (with_reducible repeat (first | refine blk_drewN ?_ _ | refine blk_drew ?_ | refine blk_alloc ?_ _)); exact BK270.out)) : gb281 ≠ gb270)); have n15_ := Aside0.mk ((by rw [hg]; exact Nat.ne_of_lt (blk_lt (g := gb276) (o := .cells #[.int .i8 ((rd_T65 l2 x21_1).f0), .int .i64 ((rd_T65 l2 x21_1).f1)] 65 (0, 0)) (by (with_reducible repeat (first | refine blk_drewN ?_ _ | refine blk_drew ?_ | refine blk_alloc ?_ _)); exact BK276.out)) : gb276 ≠ gb281)); have n16_ := Aside0.mk ((by rw [hg]; exact Nat.ne_of_gt (blk_lt (g := gb276) (o := .cells #[.int .i8 ((rd_T65 l2 x21_1).f0), .int .i64 ((rd_T65 l2 x21_1).f1)] 65 (0, 0)) (by (with_reducible repeat (first | refine blk_drewN ?_ _ | refine blk_drew ?_ | refine blk_alloc ?_ _)); exact BK276.out)) : gb281 ≠ gb276)); clear HO_10; clear BK268; clear BK269; clear BK270; clear BK276; clear HB; have HO_10 := n0_; have BK268 := n1_; have BK269 := n2_; have BK270 := n3_; have BK276 := n4_; have HB := n5_; have BK281 := n6_; have GW281 := n7_; have GE281 := n8_; have NB268_281 := n9_; have NB281_268 := n10_; have NB269_281 := n11_; have NB281_269 := n12_; have NB270_281 := n13_; have NB281_270 := n14_; have NB276_281 := n15_; have NB281_276 := n16_; clear n0_ n1_ n2_ n3_ n4_ n5_ n6_ n7_ n8_ n9_ n10_ n11_ n12_ n13_ n14_ n15_ n16_; clear hb hbox hg; have hnb35 := NB281_268.out; have hnc35 := NB268_281.out; have hnb36 := NB281_269.out; have hnc36 := NB269_281.out; have hnb37 := NB281_270.out; have hnc37 := NB270_281.out; have hnb38 := NB281_276.out; have hnc38 := NB276_281.out; have hcz39_0 : w34.cell? ⟨gb281, 0, none⟩ = some (.int .i64 0) := (blk_cell BK281.out 0).trans rfl; have hcz39_1 : w34.cell? ⟨gb281, 1, none⟩ = some (.int .i64 0) := (blk_cell BK281.out 1).trans rfl; have hcz39_2 : w34.cell? ⟨gb281, 2, none⟩ = some (.int .i64 0) := (blk_cell BK281.out 2).trans rfl; have hfz39_0 := blk_frozen BK281.out 0; have hfz39_1 := blk_frozen BK281.out 1; have hfz39_2 := blk_frozen BK281.out 2; have hcz40_0 : w34.cell? ⟨gb269, 0, none⟩ = some (.int .i64 x270000_1) := (blk_cell BK269.out 0).trans rfl; have hcz40_1 : w34.cell? ⟨gb269, 1, none⟩ = some (.int .i64 x270001_1) := (blk_cell BK269.out 1).trans rfl; have hcz40_2 : w34.cell? ⟨gb269, 2, none⟩ = some (.int .i64 x270002_1) := (blk_cell BK269.out 2).trans rfl; have hfz40_0 := blk_frozen BK269.out 0; have hfz40_1 := blk_frozen BK269.out 1; have hfz40_2 := blk_frozen BK269.out 2; have hcz41_0 : w34.cell? ⟨gb268, 0, none⟩ = some (.int .i64 a0_0) := (blk_cell BK268.out 0).trans rfl; have hcz41_1 : w34.cell? ⟨gb268, 1, none⟩ = some (.int .i64 a0_1) := (blk_cell BK268.out 1).trans rfl; have hcz41_2 : w34.cell? ⟨gb268, 2, none⟩ = some (.int .i8 a0_2) := (blk_cell BK268.out 2).trans rfl; have hcz41_3 : w34.cell? ⟨gb268, 3, none⟩ = some (.int .i8 a0_3) := (blk_cell BK268.out 3).trans rfl; have hfz41_0 := blk_frozen BK268.out 0; have hfz41_1 := blk_frozen BK268.out 1; have hfz41_2 := blk_frozen BK268.out 2; have hfz41_3 := blk_frozen BK268.out 3) | ((with_reducible refine gate_callee (f := 96) rfl ?_); refine goesL_ (some 43) rfl rfl Tryz.func96 (by kernel_rfl) rfl #[.agg #[.int .i64 t277, .int .i64 t278, .int .i64 t279], .agg #[.int .i64 a0_0, .int .i64 a0_1, .int .i8 a0_2, .int .i8 a0_3]] rfl (by (try simp only [List.map_toArray, List.map_cons, List.map_nil]); first | done | rfl | (simp only [List.length_drop, List.length_take]; rfl)) ?_; (with_reducible refine (impl_Bath_strength.calls t277 t278 t279 a0_0 a0_1 a0_2 a0_3 t282 _ A21.out).mono ?_); rintro e w42 ⟨rfl, hb⟩; refine ⟨_, rfl, ?_⟩; have n0_ := Aside0.mk (Kd.R_below (by (with_reducible repeat (first | apply Kd.R_alloc | apply Kd.R_drewN | apply Kd.R_drew)); exact (Kd.R_mono (Kd.R_mono (Kd.R_far (p := ⟨gb269, 2, none⟩) (Kd.R_far (p := ⟨gb269, 1, none⟩) (Kd.R_far (p := ⟨gb269, 0, none⟩) (Kd.R_far (p := ⟨gb281, 2, none⟩) (Kd.R_far (p := ⟨gb281, 1, none⟩) (Kd.R_far (p := ⟨gb281, 0, none⟩) (Kd.R_types (Kd.R_types HO_10.out BK281.out (by decide)) BK269.out (by decide)) (fun _ hk => hk.1.2) (.int .i64 t277)) (fun _ hk => hk.1.2) (.int .i64 t278)) (fun _ hk => hk.1.2) (.int .i64 t279)) (fun _ hk => hk.2) (.int .i64 t277)) (fun _ hk => hk.2) (.int .i64 t278)) (fun _ hk => hk.2) (.int .i64 t279)) (fun _ h_ => h_.1)) (fun _ h_ => h_.1))) hb); have n1_ := Aside0.mk (blk_below (g := gb268) (o := .cells #[.int .i64 a0_0, .int .i64 a0_1, .int .i8 a0_2, .int .i8 a0_3] 45 (0, 0)) (by (with_reducible repeat (first | refine blk_drewN ?_ _ | refine blk_drew ?_ | refine blk_alloc ?_ _)); refine blk_far ?_ NB268_269.out _; (with_reducible repeat (first | refine blk_drewN ?_ _ | refine blk_drew ?_ | refine blk_alloc ?_ _)); refine blk_far ?_ NB268_269.out _; (with_reducible repeat (first | refine blk_drewN ?_ _ | refine blk_drew ?_ | refine blk_alloc ?_ _)); refine blk_far ?_ NB268_269.out _; (with_reducible repeat (first | refine blk_drewN ?_ _ | refine blk_drew ?_ | refine blk_alloc ?_ _)); refine blk_far ?_ NB268_281.out _; (with_reducible repeat (first | refine blk_drewN ?_ _ | refine blk_drew ?_ | refine blk_alloc ?_ _)); refine blk_far ?_ NB268_281.out _; (with_reducible repeat (first | refine blk_drewN ?_ _ | refine blk_drew ?_ | refine blk_alloc ?_ _)); refine blk_far ?_ NB268_281.out _; (with_reducible repeat (first | refine blk_drewN ?_ _ | refine blk_drew ?_ | refine blk_alloc ?_ _)); exact BK268.out) hb); have n2_ := Aside0.mk (blk_below (g := gb269) (o := .cells #[.int .i64 t277, .int .i64 t278, .int .i64 t279] 47 (0, 0)) (by (with_reducible repeat (first | refine blk_drewN ?_ _ | refine blk_drew ?_ | refine blk_alloc ?_ _)); refine blk_put (cs := #[.int .i64 t277, .int .i64 t278, .int .i64 x270002_1]) ?_ 2 _ rfl; (with_reducible repeat (first | refine blk_drewN ?_ _ | refine blk_drew ?_ | refine blk_alloc ?_ _)); refine blk_put (cs := #[.int .i64 t277, .int .i64 x270001_1, .int .i64 x270002_1]) ?_ 1 _ rfl; (with_reducible repeat (first | refine blk_drewN ?_ _ | refine blk_drew ?_ | refine blk_alloc ?_ _)); refine blk_put (cs := #[.int .i64 x270000_1, .int .i64 x270001_1, .int .i64 x270002_1]) ?_ 0 _ rfl; (with_reducible repeat (first | refine blk_drewN ?_ _ | refine blk_drew ?_ | refine blk_alloc ?_ _)); refine blk_far ?_ NB269_281.out _; (with_reducible repeat (first | refine blk_drewN ?_ _ | refine blk_drew ?_ | refine blk_alloc ?_ _)); refine blk_far ?_ NB269_281.out _; (with_reducible repeat (first | refine blk_drewN ?_ _ | refine blk_drew ?_ | refine blk_alloc ?_ _)); refine blk_far ?_ NB269_281.out _; (with_reducible repeat (first | refine blk_drewN ?_ _ | refine blk_drew ?_ | refine blk_alloc ?_ _)); exact BK269.out) hb); have n3_ := Aside0.mk (blk_below (g := gb270) (o := .cells #[.int .i64 x271000_1, .int .i64 x271001_1, .int .i64 x271002_1] 47 (0, 0)) (by (with_reducible repeat (first | refine blk_drewN ?_ _ | refine blk_drew ?_ | refine blk_alloc ?_ _)); refine blk_far ?_ NB270_269.out _; (with_reducible repeat (first | refine blk_drewN ?_ _ | refine blk_drew ?_ | refine blk_alloc ?_ _)); refine blk_far ?_ NB270_269.out _; (with_reducible repeat (first | refine blk_drewN ?_ _ | refine blk_drew ?_ | refine blk_alloc ?_ _)); refine blk_far ?_ NB270_269.out _; (with_reducible repeat (first | refine blk_drewN ?_ _ | refine blk_drew ?_ | refine blk_alloc ?_ _)); refine blk_far ?_ NB270_281.out _; (with_reducible repeat (first | refine blk_drewN ?_ _ | refine blk_drew ?_ | refine blk_alloc ?_ _)); refine blk_far ?_ NB270_281.out _; (with_reducible repeat (first | refine blk_drewN ?_ _ | refine blk_drew ?_ | refine blk_alloc ?_ _)); refine blk_far ?_ NB270_281.out _; (with_reducible repeat (first | refine blk_drewN ?_ _ | refine blk_drew ?_ | refine blk_alloc ?_ _)); exact BK270.out) hb); have n4_ := Aside0.mk (blk_below (g := gb276) (o := .cells #[.int .i8 ((rd_T65 l2 x21_1).f0), .int .i64 ((rd_T65 l2 x21_1).f1)] 65 (0, 0)) (by (with_reducible repeat (first | refine blk_drewN ?_ _ | refine blk_drew ?_ | refine blk_alloc ?_ _)); refine blk_far ?_ NB276_269.out _; (with_reducible repeat (first | refine blk_drewN ?_ _ | refine blk_drew ?_ | refine blk_alloc ?_ _)); refine blk_far ?_ NB276_269.out _; (with_reducible repeat (first | refine blk_drewN ?_ _ | refine blk_drew ?_ | refine blk_alloc ?_ _)); refine blk_far ?_ NB276_269.out _; (with_reducible repeat (first | refine blk_drewN ?_ _ | refine blk_drew ?_ | refine blk_alloc ?_ _)); refine blk_far ?_ NB276_281.out _; (with_reducible repeat (first | refine blk_drewN ?_ _ | refine blk_drew ?_ | refine blk_alloc ?_ _)); refine blk_far ?_ NB276_281.out _; (with_reducible repeat (first | refine blk_drewN ?_ _ | refine blk_drew ?_ | refine blk_alloc ?_ _)); refine blk_far ?_ NB276_281.out _; (with_reducible repeat (first | refine blk_drewN ?_ _ | refine blk_drew ?_ | refine blk_alloc ?_ _)); exact BK276.out) hb); have n5_ := Aside0.mk (blk_below (g := gb281) (o := .cells #[.int .i64 t277, .int .i64 t278, .int .i64 t279] 47 (0, 0)) (by (with_reducible repeat (first | refine blk_drewN ?_ _ | refine blk_drew ?_ | refine blk_alloc ?_ _)); refine blk_far ?_ NB281_269.out _; (with_reducible repeat (first | refine blk_drewN ?_ _ | refine blk_drew ?_ | refine blk_alloc ?_ _)); refine blk_far ?_ NB281_269.out _; (with_reducible repeat (first | refine blk_drewN ?_ _ | refine blk_drew ?_ | refine blk_alloc ?_ _)); refine blk_far ?_ NB281_269.out _; (with_reducible repeat (first | refine blk_drewN ?_ _ | refine blk_drew ?_ | refine blk_alloc ?_ _)); refine blk_put (cs := #[.int .i64 t277, .int .i64 t278, .int .i64 0]) ?_ 2 _ rfl; (with_reducible repeat (first | refine blk_drewN ?_ _ | refine blk_drew ?_ | refine blk_alloc ?_ _)); refine blk_put (cs := #[.int .i64 t277, .int .i64 0, .int .i64 0]) ?_ 1 _ rfl; (with_reducible repeat (first | refine blk_drewN ?_ _ | refine blk_drew ?_ | refine blk_alloc ?_ _)); refine blk_put (cs := #[.int .i64 0, .int .i64 0, .int .i64 0]) ?_ 0 _ rfl; (with_reducible repeat (first | refine blk_drewN ?_ _ | refine blk_drew ?_ | refine blk_alloc ?_ _)); exact BK281.out) hb); have n6_ := Aside0.mk (below_step (by repeat (first | (with_reducible first | exact HB.out | apply below_alloc | apply pw_below_drewN | apply below_drew1 | refine below_set ?_ GE268.out | refine below_set ?_ GE269.out | refine below_set ?_ GE270.out | refine below_set ?_ GE276.out | refine below_set ?_ GE281.out) | exact HB.out)) hb); clear HO_10; clear BK268; clear BK269; clear BK270; clear BK276; clear BK281; clear HB; have HO_10 := n0_; have BK268 := n1_; have BK269 := n2_; have BK270 := n3_; have BK276 := n4_; have BK281 := n5_; have HB := n6_; clear n0_ n1_ n2_ n3_ n4_ n5_ n6_; (try clear hb); (try clear hb2); (try clear hk); (try clear hi)) | ((with_reducible refine gate_builtin (b := .append) (xs := #[.tmp 40, .tmp 44]) rfl ?_); at_builtin; refine Kd.R_append (Kd.int .i64) (w0 := w) w.heap.size rfl (.tmp 40) (.tmp 44) 59 2 (.int .i64 0) 8 rfl Tryz.underlying59 info2 rfl (by decide) (by omega) u10 x10_1 t282 [.int .i64 t282] (fun _ => True) (fun _ => False) rfl rfl ?aP (fun _ hk => hk.elim) ?aF ?aO ?aB ?aS ?aL ?_; (case aP => exact rfl); (case aB => exact (by repeat (first | (with_reducible first | exact HB.out | apply below_alloc | apply pw_below_drewN | apply below_drew1 | refine below_set ?_ GE268.out | refine below_set ?_ GE269.out | refine below_set ?_ GE270.out | refine below_set ?_ GE276.out | refine below_set ?_ GE281.out) | exact HB.out))); (case aF => exact (fun _ _ => trivial)); (case aO => exact (by (with_reducible repeat (first | apply Kd.R_alloc | apply Kd.R_drewN | apply Kd.R_drew)); exact HO_10.out)); (case aS => exact (below_size (by repeat (first | (with_reducible first | exact HB.out | apply below_alloc | apply pw_below_drewN | apply below_drew1 | refine below_set ?_ GE268.out | refine below_set ?_ GE269.out | refine below_set ?_ GE270.out | refine below_set ?_ GE276.out | refine below_set ?_ GE281.out) | exact HB.out)))); (case aL => have := LMc22.out; omega); intro v284 w43 ho hb hg hat; rw [← Ny283.out] at ho; have n0_ := Aside0.mk (blk_grown (g := gb268) (o := .cells #[.int .i64 a0_0, .int .i64 a0_1, .int .i8 a0_2, .int .i8 a0_3] 45 (0, 0)) (by (with_reducible repeat (first | refine blk_drewN ?_ _ | refine blk_drew ?_ | refine blk_alloc ?_ _)); exact BK268.out) hg (Kd.R_ne HO_10.out BK268.out (by decide))); have n1_ := Aside0.mk (blk_grown (g := gb269) (o := .cells #[.int .i64 t277, .int .i64 t278, .int .i64 t279] 47 (0, 0)) (by (with_reducible repeat (first | refine blk_drewN ?_ _ | refine blk_drew ?_ | refine blk_alloc ?_ _)); exact BK269.out) hg (Kd.R_ne HO_10.out BK269.out (by decide))); have n2_ := Aside0.mk (blk_grown (g := gb270) (o := .cells #[.int .i64 x271000_1, .int .i64 x271001_1, .int .i64 x271002_1] 47 (0, 0)) (by (with_reducible repeat (first | refine blk_drewN ?_ _ | refine blk_drew ?_ | refine blk_alloc ?_ _)); exact BK270.out) hg (Kd.R_ne HO_10.out BK270.out (by decide))); have n3_ := Aside0.mk (blk_grown (g := gb276) (o := .cells #[.int .i8 ((rd_T65 l2 x21_1).f0), .int .i64 ((rd_T65 l2 x21_1).f1)] 65 (0, 0)) (by (with_reducible repeat (first | refine blk_drewN ?_ _ | refine blk_drew ?_ | refine blk_alloc ?_ _)); exact BK276.out) hg (Kd.R_ne HO_10.out BK276.out (by decide))); have n4_ := Aside0.mk (blk_grown (g := gb281) (o := .cells #[.int .i64 t277, .int .i64 t278, .int .i64 t279] 47 (0, 0)) (by (with_reducible repeat (first | refine blk_drewN ?_ _ | refine blk_drew ?_ | refine blk_alloc ?_ _)); exact BK281.out) hg (Kd.R_ne HO_10.out BK281.out (by decide))); have n5_ := Aside0.mk (hb); have n6_ := Aside0.mk (ho); clear BK268; clear BK269; clear BK270; clear BK276; clear BK281; clear HB; clear HO_10; have BK268 := n0_; have BK269 := n1_; have BK270 := n2_; have BK276 := n3_; have BK281 := n4_; have HB := n5_; have HO285 := n6_; clear n0_ n1_ n2_ n3_ n4_ n5_ n6_; clear ho hb hg hat))
        go_roundg k1
        case measure => have := HK1.out; omega
        case rel => exact ⟨(y283), (wrap64 (x21_1 + 1)), (t277), (t278), (t279), (x271000_1), (x271001_1), (x271002_1), (by first | rfl | (simp; done) | (simp [*]; done)), H', ⟨by have := HK1.out; omega⟩, ⟨by (with_reducible repeat (first | apply Kd.R_alloc | apply Kd.R_drewN | apply Kd.R_drew)); exact HO285.out⟩, ⟨by (with_reducible repeat (first | refine blk_drewN ?_ _ | refine blk_drew ?_ | refine blk_alloc ?_ _)); exact BK268.out⟩, ⟨by (with_reducible repeat (first | refine blk_drewN ?_ _ | refine blk_drew ?_ | refine blk_alloc ?_ _)); exact BK269.out⟩, ⟨by (with_reducible repeat (first | refine blk_drewN ?_ _ | refine blk_drew ?_ | refine blk_alloc ?_ _)); exact BK270.out⟩, ⟨by repeat (first | (with_reducible first | exact HB.out | apply below_alloc | apply pw_below_drewN | apply below_drew1 | refine below_set ?_ GE268.out | refine below_set ?_ GE269.out | refine below_set ?_ GE270.out | refine below_set ?_ GE276.out | refine below_set ?_ GE281.out) | exact HB.out)⟩⟩
       ·rw [if_neg c22] at H
        exact absurd H (by simp)
      ·rw [if_neg c20] at H
       have c20b0 : (t280 == 0) = false := beq_eq_false_iff_ne.mpr c20
       have c20b1 : (t280 != 0) = true := bne_iff_ne.mpr c20
       simp only [Option.some.injEq, Prod.mk.injEq] at H
       obtain ⟨rfl, rfl, rfl, rfl, rfl, rfl⟩ := H
       have p275 : 0 ≤ (x21_1 : Int) := of_decide_eq_true (by first | (with_reducible assumption) | assumption)
       have q275 : x21_1 < (l2.length : Int) := of_decide_eq_true (by first | (with_reducible assumption) | assumption)
       obtain ⟨ad275, e275, hx275_0, hx275_1⟩ := at_T65 HR2.out x21_1 p275 q275
       cases e275
       replace hx275_0 := (HB.out.cell (World.block_lt_of_cell? w _ hx275_0)).trans hx275_0
       replace hx275_1 := (HB.out.cell (World.block_lt_of_cell? w _ hx275_1)).trans hx275_1
       replace p275 := eq_true p275
       replace q275 := eq_true q275
       go_wp2_with (first | ((with_reducible refine gate_dst (N := 12) rfl ?_); refine box_event ?hg (N := 12) ?hd (cs := #[.int .i8 0, .int .i64 0]) (t := 65) ?hr ?_; (case hd => rfl); (case hg => rfl); (case hr => first | (go_simp; done) | (go_simp; rfl)); intro gb276 hg w44 hbox hb; have n0_ := Aside0.mk (Kd.R_below (by (with_reducible repeat (first | apply Kd.R_alloc | apply Kd.R_drewN | apply Kd.R_drew)); exact HO_10.out) hb); have n1_ := Aside0.mk (blk_below (g := gb268) (o := .cells #[.int .i64 a0_0, .int .i64 a0_1, .int .i8 a0_2, .int .i8 a0_3] 45 (0, 0)) (by (with_reducible repeat (first | refine blk_drewN ?_ _ | refine blk_drew ?_ | refine blk_alloc ?_ _)); exact BK268.out) hb); have n2_ := Aside0.mk (blk_below (g := gb269) (o := .cells #[.int .i64 x270000_1, .int .i64 x270001_1, .int .i64 x270002_1] 47 (0, 0)) (by (with_reducible repeat (first | refine blk_drewN ?_ _ | refine blk_drew ?_ | refine blk_alloc ?_ _)); exact BK269.out) hb); have n3_ := Aside0.mk (blk_below (g := gb270) (o := .cells #[.int .i64 x271000_1, .int .i64 x271001_1, .int .i64 x271002_1] 47 (0, 0)) (by (with_reducible repeat (first | refine blk_drewN ?_ _ | refine blk_drew ?_ | refine blk_alloc ?_ _)); exact BK270.out) hb); have n4_ := Aside0.mk (below_step (by repeat (first | (with_reducible first | exact HB.out | apply below_alloc | apply pw_below_drewN | apply below_drew1 | refine below_set ?_ GE268.out | refine below_set ?_ GE269.out | refine below_set ?_ GE270.out) | exact HB.out)) hb); have n5_ := Aside0.mk (hbox); have n6_ := Aside0.mk ((by rw [hg]; exact (below_size (by repeat (first | (with_reducible first | exact HB.out | apply below_alloc | apply pw_below_drewN | apply below_drew1 | refine below_set ?_ GE268.out | refine below_set ?_ GE269.out | refine below_set ?_ GE270.out) | exact HB.out))) : w.heap.size ≤ gb276)); have n7_ := Aside0.mk ((by rw [hg]; exact (below_size (by repeat (first | (with_reducible first | exact HB.out | apply below_alloc | apply pw_below_drewN | apply below_drew1 | refine below_set ?_ GE268.out | refine below_set ?_ GE269.out | refine below_set ?_ GE270.out) | exact HB.out))) : w.heap.size ≤ gb276)); have n8_ := Aside0.mk ((by rw [hg]; exact Nat.ne_of_lt (blk_lt (g := gb268) (o := .cells #[.int .i64 a0_0, .int .i64 a0_1, .int .i8 a0_2, .int .i8 a0_3] 45 (0, 0)) (by (with_reducible repeat (first | refine blk_drewN ?_ _ | refine blk_drew ?_ | refine blk_alloc ?_ _)); exact BK268.out)) : gb268 ≠ gb276)); have n9_ := Aside0.mk ((by rw [hg]; exact Nat.ne_of_gt (blk_lt (g := gb268) (o := .cells #[.int .i64 a0_0, .int .i64 a0_1, .int .i8 a0_2, .int .i8 a0_3] 45 (0, 0)) (by (with_reducible repeat (first | refine blk_drewN ?_ _ | refine blk_drew ?_ | refine blk_alloc ?_ _)); exact BK268.out)) : gb276 ≠ gb268)); have n10_ := Aside0.mk ((by rw [hg]; exact Nat.ne_of_lt (blk_lt (g := gb269) (o := .cells #[.int .i64 x270000_1, .int .i64 x270001_1, .int .i64 x270002_1] 47 (0, 0)) (by (with_reducible repeat (first | refine blk_drewN ?_ _ | refine blk_drew ?_ | refine blk_alloc ?_ _)); exact BK269.out)) : gb269 ≠ gb276)); have n11_ := Aside0.mk ((by rw [hg]; exact Nat.ne_of_gt (blk_lt (g := gb269) (o := .cells #[.int .i64 x270000_1, .int .i64 x270001_1, .int .i64 x270002_1] 47 (0, 0)) (by (with_reducible repeat (first | refine blk_drewN ?_ _ | refine blk_drew ?_ | refine blk_alloc ?_ _)); exact BK269.out)) : gb276 ≠ gb269)); have n12_ := Aside0.mk ((by rw [hg]; exact Nat.ne_of_lt (blk_lt (g := gb270) (o := .cells #[.int .i64 x271000_1, .int .i64 x271001_1, .int .i64 x271002_1] 47 (0, 0)) (by (with_reducible repeat (first | refine blk_drewN ?_ _ | refine blk_drew ?_ | refine blk_alloc ?_ _)); exact BK270.out)) : gb270 ≠ gb276)); have n13_ := Aside0.mk ((by rw [hg]; exact Nat.ne_of_gt (blk_lt (g := gb270) (o := .cells #[.int .i64 x271000_1, .int .i64 x271001_1, .int .i64 x271002_1] 47 (0, 0)) (by (with_reducible repeat (first | refine blk_drewN ?_ _ | refine blk_drew ?_ | refine blk_alloc ?_ _)); exact BK270.out)) : gb276 ≠ gb270)); clear HO_10; clear BK268; clear BK269; clear BK270; clear HB; have HO_10 := n0_; have BK268 := n1_; have BK269 := n2_; have BK270 := n3_; have HB := n4_; have BK276 := n5_; have GW276 := n6_; have GE276 := n7_; have NB268_276 := n8_; have NB276_268 := n9_; have NB269_276 := n10_; have NB276_269 := n11_; have NB270_276 := n12_; have NB276_270 := n13_; clear n0_ n1_ n2_ n3_ n4_ n5_ n6_ n7_ n8_ n9_ n10_ n11_ n12_ n13_; clear hb hbox hg; have hnb45 := NB276_268.out; have hnc45 := NB268_276.out; have hnb46 := NB276_269.out; have hnc46 := NB269_276.out; have hnb47 := NB276_270.out; have hnc47 := NB270_276.out; have hcz48_0 : w44.cell? ⟨gb276, 0, none⟩ = some (.int .i8 0) := (blk_cell BK276.out 0).trans rfl; have hcz48_1 : w44.cell? ⟨gb276, 1, none⟩ = some (.int .i64 0) := (blk_cell BK276.out 1).trans rfl; have hfz48_0 := blk_frozen BK276.out 0; have hfz48_1 := blk_frozen BK276.out 1; have hnb49 := NB268_269.out; have hnc49 := NB269_268.out; have hnb50 := NB268_270.out; have hnc50 := NB270_268.out; have hcz51_0 : w44.cell? ⟨gb268, 0, none⟩ = some (.int .i64 a0_0) := (blk_cell BK268.out 0).trans rfl; have hcz51_1 : w44.cell? ⟨gb268, 1, none⟩ = some (.int .i64 a0_1) := (blk_cell BK268.out 1).trans rfl; have hcz51_2 : w44.cell? ⟨gb268, 2, none⟩ = some (.int .i8 a0_2) := (blk_cell BK268.out 2).trans rfl; have hcz51_3 : w44.cell? ⟨gb268, 3, none⟩ = some (.int .i8 a0_3) := (blk_cell BK268.out 3).trans rfl; have hfz51_0 := blk_frozen BK268.out 0; have hfz51_1 := blk_frozen BK268.out 1; have hfz51_2 := blk_frozen BK268.out 2; have hfz51_3 := blk_frozen BK268.out 3; have hnb52 := NB269_270.out; have hnc52 := NB270_269.out; have hcz53_0 : w44.cell? ⟨gb269, 0, none⟩ = some (.int .i64 x270000_1) := (blk_cell BK269.out 0).trans rfl; have hcz53_1 : w44.cell? ⟨gb269, 1, none⟩ = some (.int .i64 x270001_1) := (blk_cell BK269.out 1).trans rfl; have hcz53_2 : w44.cell? ⟨gb269, 2, none⟩ = some (.int .i64 x270002_1) := (blk_cell BK269.out 2).trans rfl; have hfz53_0 := blk_frozen BK269.out 0; have hfz53_1 := blk_frozen BK269.out 1; have hfz53_2 := blk_frozen BK269.out 2) | ((with_reducible refine gate_callee (f := 154) rfl ?_); refine goesL_ (some 30) rfl rfl Tryz.func154 (by kernel_rfl) rfl #[.agg #[.int .i8 ((rd_T65 l2 x21_1).f0), .int .i64 ((rd_T65 l2 x21_1).f1)], .agg #[.int .i64 a0_0, .int .i64 a0_1, .int .i8 a0_2, .int .i8 a0_3], .agg #[.int .i64 x270000_1, .int .i64 x270001_1, .int .i64 x270002_1]] rfl (by (try simp only [List.map_toArray, List.map_cons, List.map_nil]); first | done | rfl | (simp only [List.length_drop, List.length_take]; rfl)) ?_; (with_reducible refine (impl_Act_do.calls k1 ((rd_T65 l2 x21_1).f0) ((rd_T65 l2 x21_1).f1) a0_0 a0_1 a0_2 a0_3 x270000_1 x270001_1 x270002_1 t277 t278 t279 t280 _ A19.out).mono ?_); rintro e w54 ⟨rfl, hb⟩; refine ⟨_, rfl, ?_⟩; have n0_ := Aside0.mk (Kd.R_below (by (with_reducible repeat (first | apply Kd.R_alloc | apply Kd.R_drewN | apply Kd.R_drew)); exact (Kd.R_mono (Kd.R_far (p := ⟨gb276, 1, none⟩) (Kd.R_far (p := ⟨gb276, 0, none⟩) (Kd.R_types HO_10.out BK276.out (by decide)) (fun _ hk => hk.2) (.int .i8 ((rd_T65 l2 x21_1).f0))) (fun _ hk => hk.2) (.int .i64 ((rd_T65 l2 x21_1).f1))) (fun _ h_ => h_.1))) hb); have n1_ := Aside0.mk (blk_below (g := gb268) (o := .cells #[.int .i64 a0_0, .int .i64 a0_1, .int .i8 a0_2, .int .i8 a0_3] 45 (0, 0)) (by (with_reducible repeat (first | refine blk_drewN ?_ _ | refine blk_drew ?_ | refine blk_alloc ?_ _)); refine blk_far ?_ NB268_276.out _; (with_reducible repeat (first | refine blk_drewN ?_ _ | refine blk_drew ?_ | refine blk_alloc ?_ _)); refine blk_far ?_ NB268_276.out _; (with_reducible repeat (first | refine blk_drewN ?_ _ | refine blk_drew ?_ | refine blk_alloc ?_ _)); exact BK268.out) hb); have n2_ := Aside0.mk (blk_below (g := gb269) (o := .cells #[.int .i64 x270000_1, .int .i64 x270001_1, .int .i64 x270002_1] 47 (0, 0)) (by (with_reducible repeat (first | refine blk_drewN ?_ _ | refine blk_drew ?_ | refine blk_alloc ?_ _)); refine blk_far ?_ NB269_276.out _; (with_reducible repeat (first | refine blk_drewN ?_ _ | refine blk_drew ?_ | refine blk_alloc ?_ _)); refine blk_far ?_ NB269_276.out _; (with_reducible repeat (first | refine blk_drewN ?_ _ | refine blk_drew ?_ | refine blk_alloc ?_ _)); exact BK269.out) hb); have n3_ := Aside0.mk (blk_below (g := gb270) (o := .cells #[.int .i64 x271000_1, .int .i64 x271001_1, .int .i64 x271002_1] 47 (0, 0)) (by (with_reducible repeat (first | refine blk_drewN ?_ _ | refine blk_drew ?_ | refine blk_alloc ?_ _)); refine blk_far ?_ NB270_276.out _; (with_reducible repeat (first | refine blk_drewN ?_ _ | refine blk_drew ?_ | refine blk_alloc ?_ _)); refine blk_far ?_ NB270_276.out _; (with_reducible repeat (first | refine blk_drewN ?_ _ | refine blk_drew ?_ | refine blk_alloc ?_ _)); exact BK270.out) hb); have n4_ := Aside0.mk (blk_below (g := gb276) (o := .cells #[.int .i8 ((rd_T65 l2 x21_1).f0), .int .i64 ((rd_T65 l2 x21_1).f1)] 65 (0, 0)) (by (with_reducible repeat (first | refine blk_drewN ?_ _ | refine blk_drew ?_ | refine blk_alloc ?_ _)); refine blk_put (cs := #[.int .i8 ((rd_T65 l2 x21_1).f0), .int .i64 0]) ?_ 1 _ rfl; (with_reducible repeat (first | refine blk_drewN ?_ _ | refine blk_drew ?_ | refine blk_alloc ?_ _)); refine blk_put (cs := #[.int .i8 0, .int .i64 0]) ?_ 0 _ rfl; (with_reducible repeat (first | refine blk_drewN ?_ _ | refine blk_drew ?_ | refine blk_alloc ?_ _)); exact BK276.out) hb); have n5_ := Aside0.mk (below_step (by repeat (first | (with_reducible first | exact HB.out | apply below_alloc | apply pw_below_drewN | apply below_drew1 | refine below_set ?_ GE268.out | refine below_set ?_ GE269.out | refine below_set ?_ GE270.out | refine below_set ?_ GE276.out) | exact HB.out)) hb); clear HO_10; clear BK268; clear BK269; clear BK270; clear BK276; clear HB; have HO_10 := n0_; have BK268 := n1_; have BK269 := n2_; have BK270 := n3_; have BK276 := n4_; have HB := n5_; clear n0_ n1_ n2_ n3_ n4_ n5_; (try clear hb); (try clear hb2); (try clear hk); (try clear hi)) | ((with_reducible refine gate_dst (N := 13) rfl ?_); refine box_event ?hg (N := 13) ?hd (cs := #[.int .i64 0, .int .i64 0, .int .i64 0]) (t := 47) ?hr ?_; (case hd => rfl); (case hg => rfl); (case hr => first | (go_simp; done) | (go_simp; rfl)); intro gb281 hg w55 hbox hb; have n0_ := Aside0.mk (Kd.R_below (by (with_reducible repeat (first | apply Kd.R_alloc | apply Kd.R_drewN | apply Kd.R_drew)); exact HO_10.out) hb); have n1_ := Aside0.mk (blk_below (g := gb268) (o := .cells #[.int .i64 a0_0, .int .i64 a0_1, .int .i8 a0_2, .int .i8 a0_3] 45 (0, 0)) (by (with_reducible repeat (first | refine blk_drewN ?_ _ | refine blk_drew ?_ | refine blk_alloc ?_ _)); exact BK268.out) hb); have n2_ := Aside0.mk (blk_below (g := gb269) (o := .cells #[.int .i64 x270000_1, .int .i64 x270001_1, .int .i64 x270002_1] 47 (0, 0)) (by (with_reducible repeat (first | refine blk_drewN ?_ _ | refine blk_drew ?_ | refine blk_alloc ?_ _)); exact BK269.out) hb); have n3_ := Aside0.mk (blk_below (g := gb270) (o := .cells #[.int .i64 x271000_1, .int .i64 x271001_1, .int .i64 x271002_1] 47 (0, 0)) (by (with_reducible repeat (first | refine blk_drewN ?_ _ | refine blk_drew ?_ | refine blk_alloc ?_ _)); exact BK270.out) hb); have n4_ := Aside0.mk (blk_below (g := gb276) (o := .cells #[.int .i8 ((rd_T65 l2 x21_1).f0), .int .i64 ((rd_T65 l2 x21_1).f1)] 65 (0, 0)) (by (with_reducible repeat (first | refine blk_drewN ?_ _ | refine blk_drew ?_ | refine blk_alloc ?_ _)); exact BK276.out) hb); have n5_ := Aside0.mk (below_step (by repeat (first | (with_reducible first | exact HB.out | apply below_alloc | apply pw_below_drewN | apply below_drew1 | refine below_set ?_ GE268.out | refine below_set ?_ GE269.out | refine below_set ?_ GE270.out | refine below_set ?_ GE276.out) | exact HB.out)) hb); have n6_ := Aside0.mk (hbox); have n7_ := Aside0.mk ((by rw [hg]; exact (below_size (by repeat (first | (with_reducible first | exact HB.out | apply below_alloc | apply pw_below_drewN | apply below_drew1 | refine below_set ?_ GE268.out | refine below_set ?_ GE269.out | refine below_set ?_ GE270.out | refine below_set ?_ GE276.out) | exact HB.out))) : w.heap.size ≤ gb281)); have n8_ := Aside0.mk ((by rw [hg]; exact (below_size (by repeat (first | (with_reducible first | exact HB.out | apply below_alloc | apply pw_below_drewN | apply below_drew1 | refine below_set ?_ GE268.out | refine below_set ?_ GE269.out | refine below_set ?_ GE270.out | refine below_set ?_ GE276.out) | exact HB.out))) : w.heap.size ≤ gb281)); have n9_ := Aside0.mk ((by rw [hg]; exact Nat.ne_of_lt (blk_lt (g := gb268) (o := .cells #[.int .i64 a0_0, .int .i64 a0_1, .int .i8 a0_2, .int .i8 a0_3] 45 (0, 0)) (by (with_reducible repeat (first | refine blk_drewN ?_ _ | refine blk_drew ?_ | refine blk_alloc ?_ _)); exact BK268.out)) : gb268 ≠ gb281)); have n10_ := Aside0.mk ((by rw [hg]; exact Nat.ne_of_gt (blk_lt (g := gb268) (o := .cells #[.int .i64 a0_0, .int .i64 a0_1, .int .i8 a0_2, .int .i8 a0_3] 45 (0, 0)) (by (with_reducible repeat (first | refine blk_drewN ?_ _ | refine blk_drew ?_ | refine blk_alloc ?_ _)); exact BK268.out)) : gb281 ≠ gb268)); have n11_ := Aside0.mk ((by rw [hg]; exact Nat.ne_of_lt (blk_lt (g := gb269) (o := .cells #[.int .i64 x270000_1, .int .i64 x270001_1, .int .i64 x270002_1] 47 (0, 0)) (by (with_reducible repeat (first | refine blk_drewN ?_ _ | refine blk_drew ?_ | refine blk_alloc ?_ _)); exact BK269.out)) : gb269 ≠ gb281)); have n12_ := Aside0.mk ((by rw [hg]; exact Nat.ne_of_gt (blk_lt (g := gb269) (o := .cells #[.int .i64 x270000_1, .int .i64 x270001_1, .int .i64 x270002_1] 47 (0, 0)) (by (with_reducible repeat (first | refine blk_drewN ?_ _ | refine blk_drew ?_ | refine blk_alloc ?_ _)); exact BK269.out)) : gb281 ≠ gb269)); have n13_ := Aside0.mk ((by rw [hg]; exact Nat.ne_of_lt (blk_lt (g := gb270) (o := .cells #[.int .i64 x271000_1, .int .i64 x271001_1, .int .i64 x271002_1] 47 (0, 0)) (by (with_reducible repeat (first | refine blk_drewN ?_ _ | refine blk_drew ?_ | refine blk_alloc ?_ _)); exact BK270.out)) : gb270 ≠ gb281)); have n14_ := Aside0.mk ((by rw [hg]; exact Nat.ne_of_gt (blk_lt (g := gb270) (o := .cells #[.int .i64 x271000_1, .int .i64 x271001_1, .int .i64 x271002_1] 47 (0, 0)) (by (with_reducible repeat (first | refine blk_drewN ?_ _ | refine blk_drew ?_ | refine blk_alloc ?_ _)); exact BK270.out)) : gb281 ≠ gb270)); have n15_ := Aside0.mk ((by rw [hg]; exact Nat.ne_of_lt (blk_lt (g := gb276) (o := .cells #[.int .i8 ((rd_T65 l2 x21_1).f0), .int .i64 ((rd_T65 l2 x21_1).f1)] 65 (0, 0)) (by (with_reducible repeat (first | refine blk_drewN ?_ _ | refine blk_drew ?_ | refine blk_alloc ?_ _)); exact BK276.out)) : gb276 ≠ gb281)); have n16_ := Aside0.mk ((by rw [hg]; exact Nat.ne_of_gt (blk_lt (g := gb276) (o := .cells #[.int .i8 ((rd_T65 l2 x21_1).f0), .int .i64 ((rd_T65 l2 x21_1).f1)] 65 (0, 0)) (by (with_reducible repeat (first | refine blk_drewN ?_ _ | refine blk_drew ?_ | refine blk_alloc ?_ _)); exact BK276.out)) : gb281 ≠ gb276)); clear HO_10; clear BK268; clear BK269; clear BK270; clear BK276; clear HB; have HO_10 := n0_; have BK268 := n1_; have BK269 := n2_; have BK270 := n3_; have BK276 := n4_; have HB := n5_; have BK281 := n6_; have GW281 := n7_; have GE281 := n8_; have NB268_281 := n9_; have NB281_268 := n10_; have NB269_281 := n11_; have NB281_269 := n12_; have NB270_281 := n13_; have NB281_270 := n14_; have NB276_281 := n15_; have NB281_276 := n16_; clear n0_ n1_ n2_ n3_ n4_ n5_ n6_ n7_ n8_ n9_ n10_ n11_ n12_ n13_ n14_ n15_ n16_; clear hb hbox hg; have hnb56 := NB281_268.out; have hnc56 := NB268_281.out; have hnb57 := NB281_269.out; have hnc57 := NB269_281.out; have hnb58 := NB281_270.out; have hnc58 := NB270_281.out; have hnb59 := NB281_276.out; have hnc59 := NB276_281.out; have hcz60_0 : w55.cell? ⟨gb281, 0, none⟩ = some (.int .i64 0) := (blk_cell BK281.out 0).trans rfl; have hcz60_1 : w55.cell? ⟨gb281, 1, none⟩ = some (.int .i64 0) := (blk_cell BK281.out 1).trans rfl; have hcz60_2 : w55.cell? ⟨gb281, 2, none⟩ = some (.int .i64 0) := (blk_cell BK281.out 2).trans rfl; have hfz60_0 := blk_frozen BK281.out 0; have hfz60_1 := blk_frozen BK281.out 1; have hfz60_2 := blk_frozen BK281.out 2; have hcz61_0 : w55.cell? ⟨gb269, 0, none⟩ = some (.int .i64 x270000_1) := (blk_cell BK269.out 0).trans rfl; have hcz61_1 : w55.cell? ⟨gb269, 1, none⟩ = some (.int .i64 x270001_1) := (blk_cell BK269.out 1).trans rfl; have hcz61_2 : w55.cell? ⟨gb269, 2, none⟩ = some (.int .i64 x270002_1) := (blk_cell BK269.out 2).trans rfl; have hfz61_0 := blk_frozen BK269.out 0; have hfz61_1 := blk_frozen BK269.out 1; have hfz61_2 := blk_frozen BK269.out 2; have hcz62_0 : w55.cell? ⟨gb270, 0, none⟩ = some (.int .i64 x271000_1) := (blk_cell BK270.out 0).trans rfl; have hcz62_1 : w55.cell? ⟨gb270, 1, none⟩ = some (.int .i64 x271001_1) := (blk_cell BK270.out 1).trans rfl; have hcz62_2 : w55.cell? ⟨gb270, 2, none⟩ = some (.int .i64 x271002_1) := (blk_cell BK270.out 2).trans rfl; have hfz62_0 := blk_frozen BK270.out 0; have hfz62_1 := blk_frozen BK270.out 1; have hfz62_2 := blk_frozen BK270.out 2))
       refine bodyPost_ret (results_list (rs := [.cell 6 47, .tmp 7, .tmp 8, .tmp 9]) rfl (by simp) (.cell gb270 47 #[.int .i64 x270000_1, .int .i64 x270001_1, .int .i64 x270002_1] (0, 0) _ rfl (by (with_reducible repeat (first | refine blk_drewN ?_ _ | refine blk_drew ?_ | refine blk_alloc ?_ _)); refine blk_put (cs := #[.int .i64 x270000_1, .int .i64 x270001_1, .int .i64 x271002_1]) ?_ 2 _ rfl; (with_reducible repeat (first | refine blk_drewN ?_ _ | refine blk_drew ?_ | refine blk_alloc ?_ _)); refine blk_put (cs := #[.int .i64 x270000_1, .int .i64 x271001_1, .int .i64 x271002_1]) ?_ 1 _ rfl; (with_reducible repeat (first | refine blk_drewN ?_ _ | refine blk_drew ?_ | refine blk_alloc ?_ _)); refine blk_put (cs := #[.int .i64 x271000_1, .int .i64 x271001_1, .int .i64 x271002_1]) ?_ 0 _ rfl; (with_reducible repeat (first | refine blk_drewN ?_ _ | refine blk_drew ?_ | refine blk_alloc ?_ _)); refine blk_far ?_ NB270_281.out _; (with_reducible repeat (first | refine blk_drewN ?_ _ | refine blk_drew ?_ | refine blk_alloc ?_ _)); refine blk_far ?_ NB270_281.out _; (with_reducible repeat (first | refine blk_drewN ?_ _ | refine blk_drew ?_ | refine blk_alloc ?_ _)); refine blk_far ?_ NB270_281.out _; (with_reducible repeat (first | refine blk_drewN ?_ _ | refine blk_drew ?_ | refine blk_alloc ?_ _)); exact BK270.out) Tryz.underlying47 rfl (by kernel_rfl) (.tmp (.tmp (.tmp .nil))))) rfl ?_
       exact ⟨_, by first | rfl | (simp [errW_none, errW_some] <;> rfl) | (simp [*, errW_none, errW_some] <;> rfl), by (with_reducible repeat (first | apply Kd.R_alloc | apply Kd.R_drewN | apply Kd.R_drew)); exact Kd.R_mono (Kd.R_far (p := ⟨gb270, 2, none⟩) (Kd.R_far (p := ⟨gb270, 1, none⟩) (Kd.R_far (p := ⟨gb270, 0, none⟩) (Kd.R_far (p := ⟨gb281, 2, none⟩) (Kd.R_far (p := ⟨gb281, 1, none⟩) (Kd.R_far (p := ⟨gb281, 0, none⟩) (Kd.R_types (Kd.R_types HO_10.out BK281.out (by decide)) BK270.out (by decide)) (fun _ hk => hk.1.2) (.int .i64 t277)) (fun _ hk => hk.1.2) (.int .i64 t278)) (fun _ hk => hk.1.2) (.int .i64 t279)) (fun _ hk => hk.2) (.int .i64 x270000_1)) (fun _ hk => hk.2) (.int .i64 x270001_1)) (fun _ hk => hk.2) (.int .i64 x270002_1)) (fun _ hk => trivial), by repeat (first | (with_reducible first | exact HB.out | apply below_alloc | apply pw_below_drewN | apply below_drew1 | refine below_set ?_ GE268.out | refine below_set ?_ GE269.out | refine below_set ?_ GE270.out | refine below_set ?_ GE276.out | refine below_set ?_ GE281.out) | exact HB.out)⟩
     ·rw [if_neg c18] at H
      exact absurd H (by simp)
    ·rw [if_neg c17] at H
     exact absurd H (by simp)
   ·rw [if_neg c16] at H
    have c16b0 : decide (x21_1 < (l2.length : Int)) = false := decide_eq_false c16
    clear c16
    simp only [Option.some.injEq, Prod.mk.injEq] at H
    obtain ⟨rfl, rfl, rfl, rfl, rfl, rfl⟩ := H
    have hnb63 := NB269_268.out
    have hnc63 := NB268_269.out
    have hnb64 := NB269_270.out
    have hnc64 := NB270_269.out
    have hcz65_0 := blk_c BK269.out 0 rfl
    have hcz65_1 := blk_c BK269.out 1 rfl
    have hcz65_2 := blk_c BK269.out 2 rfl
    have hfz65_0 := blk_frozen BK269.out 0
    have hfz65_1 := blk_frozen BK269.out 1
    have hfz65_2 := blk_frozen BK269.out 2
    have hnb66 := NB270_268.out
    have hnc66 := NB268_270.out
    have hcz67_0 := blk_c BK270.out 0 rfl
    have hcz67_1 := blk_c BK270.out 1 rfl
    have hcz67_2 := blk_c BK270.out 2 rfl
    have hfz67_0 := blk_frozen BK270.out 0
    have hfz67_1 := blk_frozen BK270.out 1
    have hfz67_2 := blk_frozen BK270.out 2
    go_wp2
    refine bodyPost_ret (results_list (rs := [.cell 6 47, .tmp 7, .tmp 8, .tmp 9]) rfl (by simp) (.cell gb270 47 #[.int .i64 x270000_1, .int .i64 x270001_1, .int .i64 x270002_1] (0, 0) _ rfl (by (with_reducible repeat (first | refine blk_drewN ?_ _ | refine blk_drew ?_ | refine blk_alloc ?_ _)); refine blk_put (cs := #[.int .i64 x270000_1, .int .i64 x270001_1, .int .i64 x271002_1]) ?_ 2 _ rfl; (with_reducible repeat (first | refine blk_drewN ?_ _ | refine blk_drew ?_ | refine blk_alloc ?_ _)); refine blk_put (cs := #[.int .i64 x270000_1, .int .i64 x271001_1, .int .i64 x271002_1]) ?_ 1 _ rfl; (with_reducible repeat (first | refine blk_drewN ?_ _ | refine blk_drew ?_ | refine blk_alloc ?_ _)); refine blk_put (cs := #[.int .i64 x271000_1, .int .i64 x271001_1, .int .i64 x271002_1]) ?_ 0 _ rfl; (with_reducible repeat (first | refine blk_drewN ?_ _ | refine blk_drew ?_ | refine blk_alloc ?_ _)); exact BK270.out) Tryz.underlying47 rfl (by kernel_rfl) (.tmp (.tmp (.tmp .nil))))) rfl ?_
    exact ⟨_, by first | rfl | (simp [errW_none, errW_some] <;> rfl) | (simp [*, errW_none, errW_some] <;> rfl), by (with_reducible repeat (first | apply Kd.R_alloc | apply Kd.R_drewN | apply Kd.R_drew)); exact Kd.R_mono (Kd.R_far (p := ⟨gb270, 2, none⟩) (Kd.R_far (p := ⟨gb270, 1, none⟩) (Kd.R_far (p := ⟨gb270, 0, none⟩) (Kd.R_types HO_10.out BK270.out (by decide)) (fun _ hk => hk.2) (.int .i64 x270000_1)) (fun _ hk => hk.2) (.int .i64 x270001_1)) (fun _ hk => hk.2) (.int .i64 x270002_1)) (fun _ hk => trivial), by repeat (first | (with_reducible first | exact HB.out | apply below_alloc | apply pw_below_drewN | apply below_drew1 | refine below_set ?_ GE268.out | refine below_set ?_ GE269.out | refine below_set ?_ GE270.out) | exact HB.out)⟩

/-! ### impl_DoActs: function 25 -/
def impl_DoActs.f (k : Nat) (a0_0 : Int) (a0_1 : Int) (a0_2 : Int) (a0_3 : Int) (a1_0 : Int) (a1_1 : Int) (a1_2 : Int) (l2 : List (S65)) : Option (Int × Int × Int × Int) := (impl_actsCode.f a0_0 a0_1 a0_2 a0_3 a1_0 a1_1 a1_2 l2).bind fun t289 => (if t289 = 0 then ((impl_doAll.f k a0_0 a0_1 a0_2 a0_3 a1_0 a1_1 a1_2 l2).bind fun bt290 => (if bt290.2.2.2.2.2 = 0 then (some (bt290.1, bt290.2.1, bt290.2.2.1, 0)) else (some (0, 0, 0, bt290.2.2.2.2.2)))) else (some (0, 0, 0, t289)))
theorem impl_DoActs.mono : ∀ a0 a1 a2 a3 a4 a5 a6 a7 k, LeO (impl_DoActs.f k a0 a1 a2 a3 a4 a5 a6 a7) (impl_DoActs.f (k + 1) a0 a1 a2 a3 a4 a5 a6 a7) := by
 intro a0 a1 a2 a3 a4 a5 a6 a7 k
 unfold impl_DoActs.f
 repeat' first
   | (with_reducible exact impl_doAll.mono _ _ _ _ _ _ _ _ _)
   | (with_reducible exact LeO.refl _)
   | (with_reducible exact LeO.none _)
   | (with_reducible refine LeO.ite ?_ ?_)
   | (with_reducible refine LeO.bind ?_ (fun _ => ?_))
   | exact impl_doAll.mono _ _ _ _ _ _ _ _ _
   | exact LeO.none _
   | refine LeO.ite ?_ ?_
   | refine LeO.bind ?_ (fun _ => ?_)
set_option maxHeartbeats 8000000 in
set_option maxRecDepth 100000 in
theorem impl_DoActs.calls (k : Nat) (a0_0 : Int) (a0_1 : Int) (a0_2 : Int) (a0_3 : Int) (a1_0 : Int) (a1_1 : Int) (a1_2 : Int) (A2 : Option Addr) (c2 : Nat) (l2 : List (S65)) (r1 : Int) (r2 : Int) (r3 : Int) (r4 : Int) (w : World) (hr2 : Kd.C k65 w A2 l2.length l2) (hc2 : l2.length ≤ c2) (h : impl_DoActs.f k a0_0 a0_1 a0_2 a0_3 a1_0 a1_1 a1_2 l2 = some (r1, r2, r3, r4)) :
  Calls Tryz.prog 25 #[.agg #[.int .i64 a0_0, .int .i64 a0_1, .int .i8 a0_2, .int .i8 a0_3], .agg #[.int .i64 a1_0, .int .i64 a1_1, .int .i64 a1_2], .slice A2 l2.length c2] w fun e w' => e = .returned (.tuple #[.agg #[.int .i64 r1, .int .i64 r2, .int .i64 r3], .int .i64 r4]) ∧ Below w.heap.size w w' := by
 have hu45 := Tryz.underlying45
 have hu47 := Tryz.underlying47
 have HR2 := Aside0.mk hr2
 have HC2 := Aside0.mk hc2
 clear hr2 hc2
 have HB := Aside0.mk (Below.refl w.heap.size w)
 have H : ((impl_actsCode.f a0_0 a0_1 a0_2 a0_3 a1_0 a1_1 a1_2 l2).bind fun t289 => (if t289 = 0 then ((impl_doAll.f k a0_0 a0_1 a0_2 a0_3 a1_0 a1_1 a1_2 l2).bind fun bt290 => (if bt290.2.2.2.2.2 = 0 then (some (bt290.1, bt290.2.1, bt290.2.2.1, 0)) else (some (0, 0, 0, bt290.2.2.2.2.2)))) else (some (0, 0, 0, t289)))) = some (r1, r2, r3, r4) := h
 clear h
 replace H := Option.bind_eq_some_iff.mp H
 obtain ⟨t289, A40, H⟩ := H
 replace H : (if t289 = 0 then ((impl_doAll.f k a0_0 a0_1 a0_2 a0_3 a1_0 a1_1 a1_2 l2).bind fun bt290 => (if bt290.2.2.2.2.2 = 0 then (some (bt290.1, bt290.2.1, bt290.2.2.1, 0)) else (some (0, 0, 0, bt290.2.2.2.2.2)))) else (some (0, 0, 0, t289))) = some (r1, r2, r3, r4) := H
 have A4 := Aside0.mk A40
 clear A40
 by_cases c5 : t289 = 0
 ·rw [if_pos c5] at H
  have c5b0 : (t289 == 0) = true := beq_iff_eq.mpr c5
  have c5b1 : (t289 != 0) = false := bne_eq_false_iff_eq.mpr c5
  clear c5
  replace H := Option.bind_eq_some_iff.mp H
  obtain ⟨⟨t290, t291, t292, t293, t294, t297⟩, A60, H⟩ := H
  replace H : (if t297 = 0 then (some (t290, t291, t292, 0)) else (some (0, 0, 0, t297))) = some (r1, r2, r3, r4) := H
  have A6 := Aside0.mk A60
  clear A60
  by_cases c7 : t297 = 0
  ·rw [if_pos c7] at H
   have c7b0 : (t297 == 0) = true := beq_iff_eq.mpr c7
   have c7b1 : (t297 != 0) = false := bne_eq_false_iff_eq.mpr c7
   clear c7
   simp only [Option.some.injEq, Prod.mk.injEq] at H
   obtain ⟨rfl, rfl, rfl, rfl⟩ := H
   go_enter Tryz.func25, Tryz.ntmps25
   go_wp2_with (first | ((with_reducible refine gate_dst (N := 3) rfl ?_); refine box_event ?hg (N := 3) ?hd (cs := #[.int .i64 a0_0, .int .i64 a0_1, .int .i8 a0_2, .int .i8 a0_3]) (t := 45) ?hr ?_; (case hd => rfl); (case hg => rfl); (case hr => first | (go_simp; done) | (go_simp; rfl)); intro gb286 hg w8 hbox hb; have n0_ := Aside0.mk (below_step HB.out hb); have n1_ := Aside0.mk (hbox); have n2_ := Aside0.mk ((by rw [hg]; exact (below_size HB.out) : w.heap.size ≤ gb286)); have n3_ := Aside0.mk ((by rw [hg]; exact (below_size HB.out) : w.heap.size ≤ gb286)); clear HB; have HB := n0_; have BK286 := n1_; have GW286 := n2_; have GE286 := n3_; clear n0_ n1_ n2_ n3_; clear hb hbox hg) | ((with_reducible refine gate_dst (N := 4) rfl ?_); refine box_event ?hg (N := 4) ?hd (cs := #[.int .i64 a1_0, .int .i64 a1_1, .int .i64 a1_2]) (t := 47) ?hr ?_; (case hd => rfl); (case hg => rfl); (case hr => first | (go_simp; done) | (go_simp; rfl)); intro gb287 hg w9 hbox hb; have n0_ := Aside0.mk (blk_below BK286.out hb); have n1_ := Aside0.mk (below_step HB.out hb); have n2_ := Aside0.mk (hbox); have n3_ := Aside0.mk ((by rw [hg]; exact (below_size HB.out) : w.heap.size ≤ gb287)); have n4_ := Aside0.mk ((by rw [hg]; exact (below_size HB.out) : w.heap.size ≤ gb287)); have n5_ := Aside0.mk ((by rw [hg]; exact Nat.ne_of_lt (blk_lt BK286.out) : gb286 ≠ gb287)); have n6_ := Aside0.mk ((by rw [hg]; exact Nat.ne_of_gt (blk_lt BK286.out) : gb287 ≠ gb286)); clear BK286; clear HB; have BK286 := n0_; have HB := n1_; have BK287 := n2_; have GW287 := n3_; have GE287 := n4_; have NB286_287 := n5_; have NB287_286 := n6_; clear n0_ n1_ n2_ n3_ n4_ n5_ n6_; clear hb hbox hg) | ((with_reducible refine gate_dst (N := 6) rfl ?_); refine box_event ?hg (N := 6) ?hd (cs := #[.int .i64 0, .int .i64 0, .int .i64 0]) (t := 47) ?hr ?_; (case hd => rfl); (case hg => rfl); (case hr => first | (go_simp; done) | (go_simp; rfl)); intro gb288 hg w10 hbox hb; have n0_ := Aside0.mk (blk_below BK286.out hb); have n1_ := Aside0.mk (blk_below BK287.out hb); have n2_ := Aside0.mk (below_step HB.out hb); have n3_ := Aside0.mk (hbox); have n4_ := Aside0.mk ((by rw [hg]; exact (below_size HB.out) : w.heap.size ≤ gb288)); have n5_ := Aside0.mk ((by rw [hg]; exact (below_size HB.out) : w.heap.size ≤ gb288)); have n6_ := Aside0.mk ((by rw [hg]; exact Nat.ne_of_lt (blk_lt BK286.out) : gb286 ≠ gb288)); have n7_ := Aside0.mk ((by rw [hg]; exact Nat.ne_of_gt (blk_lt BK286.out) : gb288 ≠ gb286)); have n8_ := Aside0.mk ((by rw [hg]; exact Nat.ne_of_lt (blk_lt BK287.out) : gb287 ≠ gb288)); have n9_ := Aside0.mk ((by rw [hg]; exact Nat.ne_of_gt (blk_lt BK287.out) : gb288 ≠ gb287)); clear BK286; clear BK287; clear HB; have BK286 := n0_; have BK287 := n1_; have HB := n2_; have BK288 := n3_; have GW288 := n4_; have GE288 := n5_; have NB286_288 := n6_; have NB288_286 := n7_; have NB287_288 := n8_; have NB288_287 := n9_; clear n0_ n1_ n2_ n3_ n4_ n5_ n6_ n7_ n8_ n9_; clear hb hbox hg; have hnb11 := NB286_287.out; have hnc11 := NB287_286.out; have hnb12 := NB286_288.out; have hnc12 := NB288_286.out; have hcz13_0 := blk_c BK286.out 0 rfl; have hcz13_1 := blk_c BK286.out 1 rfl; have hcz13_2 := blk_c BK286.out 2 rfl; have hcz13_3 := blk_c BK286.out 3 rfl; have hfz13_0 := blk_frozen BK286.out 0; have hfz13_1 := blk_frozen BK286.out 1; have hfz13_2 := blk_frozen BK286.out 2; have hfz13_3 := blk_frozen BK286.out 3; have hnb14 := NB287_288.out; have hnc14 := NB288_287.out; have hcz15_0 := blk_c BK287.out 0 rfl; have hcz15_1 := blk_c BK287.out 1 rfl; have hcz15_2 := blk_c BK287.out 2 rfl; have hfz15_0 := blk_frozen BK287.out 0; have hfz15_1 := blk_frozen BK287.out 1; have hfz15_2 := blk_frozen BK287.out 2) | ((with_reducible refine gate_callee (f := 87) rfl ?_); refine goesL_ (some 16) rfl rfl Tryz.func87 (by kernel_rfl) rfl #[.agg #[.int .i64 a0_0, .int .i64 a0_1, .int .i8 a0_2, .int .i8 a0_3], .agg #[.int .i64 a1_0, .int .i64 a1_1, .int .i64 a1_2], .slice A2 l2.length c2] rfl (by (try simp only [List.map_toArray, List.map_cons, List.map_nil]); first | done | rfl | (simp only [List.length_drop, List.length_take]; rfl)) ?_; (with_reducible refine (impl_actsCode.calls a0_0 a0_1 a0_2 a0_3 a1_0 a1_1 a1_2 _ _ l2 t289 _ ?side1 ?side2 A4.out).mono ?_); (case side1 => repeat (first | exact (Kd.C_below HR2.out HB.out) | (with_reducible refine Kd.C_alloc ?_ _) | (with_reducible refine Kd.C_drewN ?_ _) | (with_reducible refine Kd.C_drew ?_))); (case side2 => exact HC2.out); rintro e w16 ⟨rfl, hb⟩; refine ⟨_, rfl, ?_⟩; have n0_ := Aside0.mk (blk_below BK286.out hb); have n1_ := Aside0.mk (blk_below BK287.out hb); have n2_ := Aside0.mk (blk_below BK288.out hb); have n3_ := Aside0.mk (below_step HB.out hb); clear BK286; clear BK287; clear BK288; clear HB; have BK286 := n0_; have BK287 := n1_; have BK288 := n2_; have HB := n3_; clear n0_ n1_ n2_ n3_; (try clear hb); (try clear hb2); (try clear hk); (try clear hi); have hcz17_0 := blk_c BK286.out 0 rfl; have hcz17_1 := blk_c BK286.out 1 rfl; have hcz17_2 := blk_c BK286.out 2 rfl; have hcz17_3 := blk_c BK286.out 3 rfl; have hfz17_0 := blk_frozen BK286.out 0; have hfz17_1 := blk_frozen BK286.out 1; have hfz17_2 := blk_frozen BK286.out 2; have hfz17_3 := blk_frozen BK286.out 3; have hcz18_0 := blk_c BK287.out 0 rfl; have hcz18_1 := blk_c BK287.out 1 rfl; have hcz18_2 := blk_c BK287.out 2 rfl; have hfz18_0 := blk_frozen BK287.out 0; have hfz18_1 := blk_frozen BK287.out 1; have hfz18_2 := blk_frozen BK287.out 2) | ((with_reducible refine gate_callee (f := 88) rfl ?_); refine goesL_ (some 25) rfl rfl Tryz.func88 (by kernel_rfl) rfl #[.agg #[.int .i64 a0_0, .int .i64 a0_1, .int .i8 a0_2, .int .i8 a0_3], .agg #[.int .i64 a1_0, .int .i64 a1_1, .int .i64 a1_2], .slice A2 l2.length c2] rfl (by (try simp only [List.map_toArray, List.map_cons, List.map_nil]); first | done | rfl | (simp only [List.length_drop, List.length_take]; rfl)) ?_; (with_reducible refine (impl_doAll.calls k a0_0 a0_1 a0_2 a0_3 a1_0 a1_1 a1_2 _ _ l2 t290 t291 t292 t293 t294 t297 _ ?side1 ?side2 A6.out).mono ?_); (case side1 => repeat (first | exact (Kd.C_below HR2.out HB.out) | (with_reducible refine Kd.C_alloc ?_ _) | (with_reducible refine Kd.C_drewN ?_ _) | (with_reducible refine Kd.C_drew ?_))); (case side2 => exact HC2.out); rintro e w19 ⟨v295, rfl, ho0, hb⟩; refine ⟨_, rfl, ?_⟩; have n0_ := Aside0.mk (Kd.R_lower ho0 (below_size HB.out)); have n1_ := Aside0.mk (blk_below BK286.out hb); have n2_ := Aside0.mk (blk_below BK287.out hb); have n3_ := Aside0.mk (blk_below BK288.out hb); have n4_ := Aside0.mk (below_step HB.out hb); clear BK286; clear BK287; clear BK288; clear HB; have HO296 := n0_; have BK286 := n1_; have BK287 := n2_; have BK288 := n3_; have HB := n4_; clear n0_ n1_ n2_ n3_ n4_; (try clear hb); (try clear hb2); (try clear hk); (try clear hi); (try clear ho0)) | ((with_reducible refine gate_dst (N := 9) rfl ?_); refine box_event ?hg (N := 9) ?hd (cs := #[.int .i64 0, .int .i64 0, .int .i64 0]) (t := 47) ?hr ?_; (case hd => rfl); (case hg => rfl); (case hr => first | (go_simp; done) | (go_simp; rfl)); intro gb298 hg w20 hbox hb; have n0_ := Aside0.mk (Kd.R_below HO296.out hb); have n1_ := Aside0.mk (blk_below BK286.out hb); have n2_ := Aside0.mk (blk_below BK287.out hb); have n3_ := Aside0.mk (blk_below BK288.out hb); have n4_ := Aside0.mk (below_step HB.out hb); have n5_ := Aside0.mk (hbox); have n6_ := Aside0.mk ((by rw [hg]; exact (below_size HB.out) : w.heap.size ≤ gb298)); have n7_ := Aside0.mk ((by rw [hg]; exact (below_size HB.out) : w.heap.size ≤ gb298)); have n8_ := Aside0.mk ((by rw [hg]; exact Nat.ne_of_lt (blk_lt BK286.out) : gb286 ≠ gb298)); have n9_ := Aside0.mk ((by rw [hg]; exact Nat.ne_of_gt (blk_lt BK286.out) : gb298 ≠ gb286)); have n10_ := Aside0.mk ((by rw [hg]; exact Nat.ne_of_lt (blk_lt BK287.out) : gb287 ≠ gb298)); have n11_ := Aside0.mk ((by rw [hg]; exact Nat.ne_of_gt (blk_lt BK287.out) : gb298 ≠ gb287)); have n12_ := Aside0.mk ((by rw [hg]; exact Nat.ne_of_lt (blk_lt BK288.out) : gb288 ≠ gb298)); have n13_ := Aside0.mk ((by rw [hg]; exact Nat.ne_of_gt (blk_lt BK288.out) : gb298 ≠ gb288)); clear HO296; clear BK286; clear BK287; clear BK288; clear HB; have HO296 := n0_; have BK286 := n1_; have BK287 := n2_; have BK288 := n3_; have HB := n4_; have BK298 := n5_; have GW298 := n6_; have GE298 := n7_; have NB286_298 := n8_; have NB298_286 := n9_; have NB287_298 := n10_; have NB298_287 := n11_; have NB288_298 := n12_; have NB298_288 := n13_; clear n0_ n1_ n2_ n3_ n4_ n5_ n6_ n7_ n8_ n9_ n10_ n11_ n12_ n13_; clear hb hbox hg; have hnb21 := NB298_286.out; have hnc21 := NB286_298.out; have hnb22 := NB298_287.out; have hnc22 := NB287_298.out; have hnb23 := NB298_288.out; have hnc23 := NB288_298.out; have hcz24_0 := blk_c BK298.out 0 rfl; have hcz24_1 := blk_c BK298.out 1 rfl; have hcz24_2 := blk_c BK298.out 2 rfl; have hfz24_0 := blk_frozen BK298.out 0; have hfz24_1 := blk_frozen BK298.out 1; have hfz24_2 := blk_frozen BK298.out 2; have hcz25_0 := blk_c BK288.out 0 rfl; have hcz25_1 := blk_c BK288.out 1 rfl; have hcz25_2 := blk_c BK288.out 2 rfl; have hfz25_0 := blk_frozen BK288.out 0; have hfz25_1 := blk_frozen BK288.out 1; have hfz25_2 := blk_frozen BK288.out 2))
   refine bodyPost_ret (results_ct rfl _ _ gb288 47 #[.int .i64 t290, .int .i64 t291, .int .i64 t292] (0, 0) _ rfl (by (with_reducible repeat (first | refine blk_drewN ?_ _ | refine blk_drew ?_ | refine blk_alloc ?_ _)); refine blk_put (cs := #[.int .i64 t290, .int .i64 t291, .int .i64 0]) ?_ 2 _ rfl; (with_reducible repeat (first | refine blk_drewN ?_ _ | refine blk_drew ?_ | refine blk_alloc ?_ _)); refine blk_put (cs := #[.int .i64 t290, .int .i64 0, .int .i64 0]) ?_ 1 _ rfl; (with_reducible repeat (first | refine blk_drewN ?_ _ | refine blk_drew ?_ | refine blk_alloc ?_ _)); refine blk_put (cs := #[.int .i64 0, .int .i64 0, .int .i64 0]) ?_ 0 _ rfl; (with_reducible repeat (first | refine blk_drewN ?_ _ | refine blk_drew ?_ | refine blk_alloc ?_ _)); refine blk_far ?_ NB288_298.out _; (with_reducible repeat (first | refine blk_drewN ?_ _ | refine blk_drew ?_ | refine blk_alloc ?_ _)); refine blk_far ?_ NB288_298.out _; (with_reducible repeat (first | refine blk_drewN ?_ _ | refine blk_drew ?_ | refine blk_alloc ?_ _)); refine blk_far ?_ NB288_298.out _; (with_reducible repeat (first | refine blk_drewN ?_ _ | refine blk_drew ?_ | refine blk_alloc ?_ _)); exact BK288.out) Tryz.underlying47 rfl (by kernel_rfl)) rfl ?_
   exact ⟨by first | rfl | (simp [errW_none, errW_some] <;> rfl) | (simp [*, errW_none, errW_some] <;> rfl), by repeat (first | (with_reducible first | exact HB.out | apply below_alloc | apply pw_below_drewN | apply below_drew1 | refine below_set ?_ GE286.out | refine below_set ?_ GE287.out | refine below_set ?_ GE288.out | refine below_set ?_ GE298.out) | exact HB.out)⟩
  ·rw [if_neg c7] at H
   have c7b0 : (t297 == 0) = false := beq_eq_false_iff_ne.mpr c7
   have c7b1 : (t297 != 0) = true := bne_iff_ne.mpr c7
   simp only [Option.some.injEq, Prod.mk.injEq] at H
   obtain ⟨rfl, rfl, rfl, rfl⟩ := H
   go_enter Tryz.func25, Tryz.ntmps25
   go_wp2_with (first | ((with_reducible refine gate_dst (N := 3) rfl ?_); refine box_event ?hg (N := 3) ?hd (cs := #[.int .i64 a0_0, .int .i64 a0_1, .int .i8 a0_2, .int .i8 a0_3]) (t := 45) ?hr ?_; (case hd => rfl); (case hg => rfl); (case hr => first | (go_simp; done) | (go_simp; rfl)); intro gb286 hg w26 hbox hb; have n0_ := Aside0.mk (below_step HB.out hb); have n1_ := Aside0.mk (hbox); have n2_ := Aside0.mk ((by rw [hg]; exact (below_size HB.out) : w.heap.size ≤ gb286)); have n3_ := Aside0.mk ((by rw [hg]; exact (below_size HB.out) : w.heap.size ≤ gb286)); clear HB; have HB := n0_; have BK286 := n1_; have GW286 := n2_; have GE286 := n3_; clear n0_ n1_ n2_ n3_; clear hb hbox hg) | ((with_reducible refine gate_dst (N := 4) rfl ?_); refine box_event ?hg (N := 4) ?hd (cs := #[.int .i64 a1_0, .int .i64 a1_1, .int .i64 a1_2]) (t := 47) ?hr ?_; (case hd => rfl); (case hg => rfl); (case hr => first | (go_simp; done) | (go_simp; rfl)); intro gb287 hg w27 hbox hb; have n0_ := Aside0.mk (blk_below BK286.out hb); have n1_ := Aside0.mk (below_step HB.out hb); have n2_ := Aside0.mk (hbox); have n3_ := Aside0.mk ((by rw [hg]; exact (below_size HB.out) : w.heap.size ≤ gb287)); have n4_ := Aside0.mk ((by rw [hg]; exact (below_size HB.out) : w.heap.size ≤ gb287)); have n5_ := Aside0.mk ((by rw [hg]; exact Nat.ne_of_lt (blk_lt BK286.out) : gb286 ≠ gb287)); have n6_ := Aside0.mk ((by rw [hg]; exact Nat.ne_of_gt (blk_lt BK286.out) : gb287 ≠ gb286)); clear BK286; clear HB; have BK286 := n0_; have HB := n1_; have BK287 := n2_; have GW287 := n3_; have GE287 := n4_; have NB286_287 := n5_; have NB287_286 := n6_; clear n0_ n1_ n2_ n3_ n4_ n5_ n6_; clear hb hbox hg) | ((with_reducible refine gate_dst (N := 6) rfl ?_); refine box_event ?hg (N := 6) ?hd (cs := #[.int .i64 0, .int .i64 0, .int .i64 0]) (t := 47) ?hr ?_; (case hd => rfl); (case hg => rfl); (case hr => first | (go_simp; done) | (go_simp; rfl)); intro gb288 hg w28 hbox hb; have n0_ := Aside0.mk (blk_below BK286.out hb); have n1_ := Aside0.mk (blk_below BK287.out hb); have n2_ := Aside0.mk (below_step HB.out hb); have n3_ := Aside0.mk (hbox); have n4_ := Aside0.mk ((by rw [hg]; exact (below_size HB.out) : w.heap.size ≤ gb288)); have n5_ := Aside0.mk ((by rw [hg]; exact (below_size HB.out) : w.heap.size ≤ gb288)); have n6_ := Aside0.mk ((by rw [hg]; exact Nat.ne_of_lt (blk_lt BK286.out) : gb286 ≠ gb288)); have n7_ := Aside0.mk ((by rw [hg]; exact Nat.ne_of_gt (blk_lt BK286.out) : gb288 ≠ gb286)); have n8_ := Aside0.mk ((by rw [hg]; exact Nat.ne_of_lt (blk_lt BK287.out) : gb287 ≠ gb288)); have n9_ := Aside0.mk ((by rw [hg]; exact Nat.ne_of_gt (blk_lt BK287.out) : gb288 ≠ gb287)); clear BK286; clear BK287; clear HB; have BK286 := n0_; have BK287 := n1_; have HB := n2_; have BK288 := n3_; have GW288 := n4_; have GE288 := n5_; have NB286_288 := n6_; have NB288_286 := n7_; have NB287_288 := n8_; have NB288_287 := n9_; clear n0_ n1_ n2_ n3_ n4_ n5_ n6_ n7_ n8_ n9_; clear hb hbox hg; have hnb29 := NB286_287.out; have hnc29 := NB287_286.out; have hnb30 := NB286_288.out; have hnc30 := NB288_286.out; have hcz31_0 := blk_c BK286.out 0 rfl; have hcz31_1 := blk_c BK286.out 1 rfl; have hcz31_2 := blk_c BK286.out 2 rfl; have hcz31_3 := blk_c BK286.out 3 rfl; have hfz31_0 := blk_frozen BK286.out 0; have hfz31_1 := blk_frozen BK286.out 1; have hfz31_2 := blk_frozen BK286.out 2; have hfz31_3 := blk_frozen BK286.out 3; have hnb32 := NB287_288.out; have hnc32 := NB288_287.out; have hcz33_0 := blk_c BK287.out 0 rfl; have hcz33_1 := blk_c BK287.out 1 rfl; have hcz33_2 := blk_c BK287.out 2 rfl; have hfz33_0 := blk_frozen BK287.out 0; have hfz33_1 := blk_frozen BK287.out 1; have hfz33_2 := blk_frozen BK287.out 2) | ((with_reducible refine gate_callee (f := 87) rfl ?_); refine goesL_ (some 16) rfl rfl Tryz.func87 (by kernel_rfl) rfl #[.agg #[.int .i64 a0_0, .int .i64 a0_1, .int .i8 a0_2, .int .i8 a0_3], .agg #[.int .i64 a1_0, .int .i64 a1_1, .int .i64 a1_2], .slice A2 l2.length c2] rfl (by (try simp only [List.map_toArray, List.map_cons, List.map_nil]); first | done | rfl | (simp only [List.length_drop, List.length_take]; rfl)) ?_; (with_reducible refine (impl_actsCode.calls a0_0 a0_1 a0_2 a0_3 a1_0 a1_1 a1_2 _ _ l2 t289 _ ?side1 ?side2 A4.out).mono ?_); (case side1 => repeat (first | exact (Kd.C_below HR2.out HB.out) | (with_reducible refine Kd.C_alloc ?_ _) | (with_reducible refine Kd.C_drewN ?_ _) | (with_reducible refine Kd.C_drew ?_))); (case side2 => exact HC2.out); rintro e w34 ⟨rfl, hb⟩; refine ⟨_, rfl, ?_⟩; have n0_ := Aside0.mk (blk_below BK286.out hb); have n1_ := Aside0.mk (blk_below BK287.out hb); have n2_ := Aside0.mk (blk_below BK288.out hb); have n3_ := Aside0.mk (below_step HB.out hb); clear BK286; clear BK287; clear BK288; clear HB; have BK286 := n0_; have BK287 := n1_; have BK288 := n2_; have HB := n3_; clear n0_ n1_ n2_ n3_; (try clear hb); (try clear hb2); (try clear hk); (try clear hi); have hcz35_0 := blk_c BK286.out 0 rfl; have hcz35_1 := blk_c BK286.out 1 rfl; have hcz35_2 := blk_c BK286.out 2 rfl; have hcz35_3 := blk_c BK286.out 3 rfl; have hfz35_0 := blk_frozen BK286.out 0; have hfz35_1 := blk_frozen BK286.out 1; have hfz35_2 := blk_frozen BK286.out 2; have hfz35_3 := blk_frozen BK286.out 3; have hcz36_0 := blk_c BK287.out 0 rfl; have hcz36_1 := blk_c BK287.out 1 rfl; have hcz36_2 := blk_c BK287.out 2 rfl; have hfz36_0 := blk_frozen BK287.out 0; have hfz36_1 := blk_frozen BK287.out 1; have hfz36_2 := blk_frozen BK287.out 2) | ((with_reducible refine gate_callee (f := 88) rfl ?_); refine goesL_ (some 25) rfl rfl Tryz.func88 (by kernel_rfl) rfl #[.agg #[.int .i64 a0_0, .int .i64 a0_1, .int .i8 a0_2, .int .i8 a0_3], .agg #[.int .i64 a1_0, .int .i64 a1_1, .int .i64 a1_2], .slice A2 l2.length c2] rfl (by (try simp only [List.map_toArray, List.map_cons, List.map_nil]); first | done | rfl | (simp only [List.length_drop, List.length_take]; rfl)) ?_; (with_reducible refine (impl_doAll.calls k a0_0 a0_1 a0_2 a0_3 a1_0 a1_1 a1_2 _ _ l2 t290 t291 t292 t293 t294 t297 _ ?side1 ?side2 A6.out).mono ?_); (case side1 => repeat (first | exact (Kd.C_below HR2.out HB.out) | (with_reducible refine Kd.C_alloc ?_ _) | (with_reducible refine Kd.C_drewN ?_ _) | (with_reducible refine Kd.C_drew ?_))); (case side2 => exact HC2.out); rintro e w37 ⟨v295, rfl, ho0, hb⟩; refine ⟨_, rfl, ?_⟩; have n0_ := Aside0.mk (Kd.R_lower ho0 (below_size HB.out)); have n1_ := Aside0.mk (blk_below BK286.out hb); have n2_ := Aside0.mk (blk_below BK287.out hb); have n3_ := Aside0.mk (blk_below BK288.out hb); have n4_ := Aside0.mk (below_step HB.out hb); clear BK286; clear BK287; clear BK288; clear HB; have HO296 := n0_; have BK286 := n1_; have BK287 := n2_; have BK288 := n3_; have HB := n4_; clear n0_ n1_ n2_ n3_ n4_; (try clear hb); (try clear hb2); (try clear hk); (try clear hi); (try clear ho0)) | ((with_reducible refine gate_dst (N := 9) rfl ?_); refine box_event ?hg (N := 9) ?hd (cs := #[.int .i64 0, .int .i64 0, .int .i64 0]) (t := 47) ?hr ?_; (case hd => rfl); (case hg => rfl); (case hr => first | (go_simp; done) | (go_simp; rfl)); intro gb298 hg w38 hbox hb; have n0_ := Aside0.mk (Kd.R_below HO296.out hb); have n1_ := Aside0.mk (blk_below BK286.out hb); have n2_ := Aside0.mk (blk_below BK287.out hb); have n3_ := Aside0.mk (blk_below BK288.out hb); have n4_ := Aside0.mk (below_step HB.out hb); have n5_ := Aside0.mk (hbox); have n6_ := Aside0.mk ((by rw [hg]; exact (below_size HB.out) : w.heap.size ≤ gb298)); have n7_ := Aside0.mk ((by rw [hg]; exact (below_size HB.out) : w.heap.size ≤ gb298)); have n8_ := Aside0.mk ((by rw [hg]; exact Nat.ne_of_lt (blk_lt BK286.out) : gb286 ≠ gb298)); have n9_ := Aside0.mk ((by rw [hg]; exact Nat.ne_of_gt (blk_lt BK286.out) : gb298 ≠ gb286)); have n10_ := Aside0.mk ((by rw [hg]; exact Nat.ne_of_lt (blk_lt BK287.out) : gb287 ≠ gb298)); have n11_ := Aside0.mk ((by rw [hg]; exact Nat.ne_of_gt (blk_lt BK287.out) : gb298 ≠ gb287)); have n12_ := Aside0.mk ((by rw [hg]; exact Nat.ne_of_lt (blk_lt BK288.out) : gb288 ≠ gb298)); have n13_ := Aside0.mk ((by rw [hg]; exact Nat.ne_of_gt (blk_lt BK288.out) : gb298 ≠ gb288)); clear HO296; clear BK286; clear BK287; clear BK288; clear HB; have HO296 := n0_; have BK286 := n1_; have BK287 := n2_; have BK288 := n3_; have HB := n4_; have BK298 := n5_; have GW298 := n6_; have GE298 := n7_; have NB286_298 := n8_; have NB298_286 := n9_; have NB287_298 := n10_; have NB298_287 := n11_; have NB288_298 := n12_; have NB298_288 := n13_; clear n0_ n1_ n2_ n3_ n4_ n5_ n6_ n7_ n8_ n9_ n10_ n11_ n12_ n13_; clear hb hbox hg; have hnb39 := NB298_286.out; have hnc39 := NB286_298.out; have hnb40 := NB298_287.out; have hnc40 := NB287_298.out; have hnb41 := NB298_288.out; have hnc41 := NB288_298.out; have hcz42_0 := blk_c BK298.out 0 rfl; have hcz42_1 := blk_c BK298.out 1 rfl; have hcz42_2 := blk_c BK298.out 2 rfl; have hfz42_0 := blk_frozen BK298.out 0; have hfz42_1 := blk_frozen BK298.out 1; have hfz42_2 := blk_frozen BK298.out 2; have hcz43_0 := blk_c BK288.out 0 rfl; have hcz43_1 := blk_c BK288.out 1 rfl; have hcz43_2 := blk_c BK288.out 2 rfl; have hfz43_0 := blk_frozen BK288.out 0; have hfz43_1 := blk_frozen BK288.out 1; have hfz43_2 := blk_frozen BK288.out 2))
   refine bodyPost_ret (results_ct rfl _ _ gb288 47 #[.int .i64 0, .int .i64 0, .int .i64 0] (0, 0) _ rfl (by (with_reducible repeat (first | refine blk_drewN ?_ _ | refine blk_drew ?_ | refine blk_alloc ?_ _)); refine blk_put (cs := #[.int .i64 0, .int .i64 0, .int .i64 0]) ?_ 2 _ rfl; (with_reducible repeat (first | refine blk_drewN ?_ _ | refine blk_drew ?_ | refine blk_alloc ?_ _)); refine blk_put (cs := #[.int .i64 0, .int .i64 0, .int .i64 0]) ?_ 1 _ rfl; (with_reducible repeat (first | refine blk_drewN ?_ _ | refine blk_drew ?_ | refine blk_alloc ?_ _)); refine blk_put (cs := #[.int .i64 0, .int .i64 0, .int .i64 0]) ?_ 0 _ rfl; (with_reducible repeat (first | refine blk_drewN ?_ _ | refine blk_drew ?_ | refine blk_alloc ?_ _)); refine blk_far ?_ NB288_298.out _; (with_reducible repeat (first | refine blk_drewN ?_ _ | refine blk_drew ?_ | refine blk_alloc ?_ _)); refine blk_far ?_ NB288_298.out _; (with_reducible repeat (first | refine blk_drewN ?_ _ | refine blk_drew ?_ | refine blk_alloc ?_ _)); refine blk_far ?_ NB288_298.out _; (with_reducible repeat (first | refine blk_drewN ?_ _ | refine blk_drew ?_ | refine blk_alloc ?_ _)); exact BK288.out) Tryz.underlying47 rfl (by kernel_rfl)) rfl ?_
   exact ⟨by first | rfl | (simp [errW_none, errW_some] <;> rfl) | (simp [*, errW_none, errW_some] <;> rfl), by repeat (first | (with_reducible first | exact HB.out | apply below_alloc | apply pw_below_drewN | apply below_drew1 | refine below_set ?_ GE286.out | refine below_set ?_ GE287.out | refine below_set ?_ GE288.out | refine below_set ?_ GE298.out) | exact HB.out)⟩
 ·rw [if_neg c5] at H
  have c5b0 : (t289 == 0) = false := beq_eq_false_iff_ne.mpr c5
  have c5b1 : (t289 != 0) = true := bne_iff_ne.mpr c5
  simp only [Option.some.injEq, Prod.mk.injEq] at H
  obtain ⟨rfl, rfl, rfl, rfl⟩ := H
  go_enter Tryz.func25, Tryz.ntmps25
  go_wp2_with (first | ((with_reducible refine gate_dst (N := 3) rfl ?_); refine box_event ?hg (N := 3) ?hd (cs := #[.int .i64 a0_0, .int .i64 a0_1, .int .i8 a0_2, .int .i8 a0_3]) (t := 45) ?hr ?_; (case hd => rfl); (case hg => rfl); (case hr => first | (go_simp; done) | (go_simp; rfl)); intro gb286 hg w44 hbox hb; have n0_ := Aside0.mk (below_step HB.out hb); have n1_ := Aside0.mk (hbox); have n2_ := Aside0.mk ((by rw [hg]; exact (below_size HB.out) : w.heap.size ≤ gb286)); have n3_ := Aside0.mk ((by rw [hg]; exact (below_size HB.out) : w.heap.size ≤ gb286)); clear HB; have HB := n0_; have BK286 := n1_; have GW286 := n2_; have GE286 := n3_; clear n0_ n1_ n2_ n3_; clear hb hbox hg) | ((with_reducible refine gate_dst (N := 4) rfl ?_); refine box_event ?hg (N := 4) ?hd (cs := #[.int .i64 a1_0, .int .i64 a1_1, .int .i64 a1_2]) (t := 47) ?hr ?_; (case hd => rfl); (case hg => rfl); (case hr => first | (go_simp; done) | (go_simp; rfl)); intro gb287 hg w45 hbox hb; have n0_ := Aside0.mk (blk_below BK286.out hb); have n1_ := Aside0.mk (below_step HB.out hb); have n2_ := Aside0.mk (hbox); have n3_ := Aside0.mk ((by rw [hg]; exact (below_size HB.out) : w.heap.size ≤ gb287)); have n4_ := Aside0.mk ((by rw [hg]; exact (below_size HB.out) : w.heap.size ≤ gb287)); have n5_ := Aside0.mk ((by rw [hg]; exact Nat.ne_of_lt (blk_lt BK286.out) : gb286 ≠ gb287)); have n6_ := Aside0.mk ((by rw [hg]; exact Nat.ne_of_gt (blk_lt BK286.out) : gb287 ≠ gb286)); clear BK286; clear HB; have BK286 := n0_; have HB := n1_; have BK287 := n2_; have GW287 := n3_; have GE287 := n4_; have NB286_287 := n5_; have NB287_286 := n6_; clear n0_ n1_ n2_ n3_ n4_ n5_ n6_; clear hb hbox hg) | ((with_reducible refine gate_dst (N := 6) rfl ?_); refine box_event ?hg (N := 6) ?hd (cs := #[.int .i64 0, .int .i64 0, .int .i64 0]) (t := 47) ?hr ?_; (case hd => rfl); (case hg => rfl); (case hr => first | (go_simp; done) | (go_simp; rfl)); intro gb288 hg w46 hbox hb; have n0_ := Aside0.mk (blk_below BK286.out hb); have n1_ := Aside0.mk (blk_below BK287.out hb); have n2_ := Aside0.mk (below_step HB.out hb); have n3_ := Aside0.mk (hbox); have n4_ := Aside0.mk ((by rw [hg]; exact (below_size HB.out) : w.heap.size ≤ gb288)); have n5_ := Aside0.mk ((by rw [hg]; exact (below_size HB.out) : w.heap.size ≤ gb288)); have n6_ := Aside0.mk ((by rw [hg]; exact Nat.ne_of_lt (blk_lt BK286.out) : gb286 ≠ gb288)); have n7_ := Aside0.mk ((by rw [hg]; exact Nat.ne_of_gt (blk_lt BK286.out) : gb288 ≠ gb286)); have n8_ := Aside0.mk ((by rw [hg]; exact Nat.ne_of_lt (blk_lt BK287.out) : gb287 ≠ gb288)); have n9_ := Aside0.mk ((by rw [hg]; exact Nat.ne_of_gt (blk_lt BK287.out) : gb288 ≠ gb287)); clear BK286; clear BK287; clear HB; have BK286 := n0_; have BK287 := n1_; have HB := n2_; have BK288 := n3_; have GW288 := n4_; have GE288 := n5_; have NB286_288 := n6_; have NB288_286 := n7_; have NB287_288 := n8_; have NB288_287 := n9_; clear n0_ n1_ n2_ n3_ n4_ n5_ n6_ n7_ n8_ n9_; clear hb hbox hg; have hnb47 := NB286_287.out; have hnc47 := NB287_286.out; have hnb48 := NB286_288.out; have hnc48 := NB288_286.out; have hcz49_0 := blk_c BK286.out 0 rfl; have hcz49_1 := blk_c BK286.out 1 rfl; have hcz49_2 := blk_c BK286.out 2 rfl; have hcz49_3 := blk_c BK286.out 3 rfl; have hfz49_0 := blk_frozen BK286.out 0; have hfz49_1 := blk_frozen BK286.out 1; have hfz49_2 := blk_frozen BK286.out 2; have hfz49_3 := blk_frozen BK286.out 3; have hnb50 := NB287_288.out; have hnc50 := NB288_287.out; have hcz51_0 := blk_c BK287.out 0 rfl; have hcz51_1 := blk_c BK287.out 1 rfl; have hcz51_2 := blk_c BK287.out 2 rfl; have hfz51_0 := blk_frozen BK287.out 0; have hfz51_1 := blk_frozen BK287.out 1; have hfz51_2 := blk_frozen BK287.out 2) | ((with_reducible refine gate_callee (f := 87) rfl ?_); refine goesL_ (some 16) rfl rfl Tryz.func87 (by kernel_rfl) rfl #[.agg #[.int .i64 a0_0, .int .i64 a0_1, .int .i8 a0_2, .int .i8 a0_3], .agg #[.int .i64 a1_0, .int .i64 a1_1, .int .i64 a1_2], .slice A2 l2.length c2] rfl (by (try simp only [List.map_toArray, List.map_cons, List.map_nil]); first | done | rfl | (simp only [List.length_drop, List.length_take]; rfl)) ?_; (with_reducible refine (impl_actsCode.calls a0_0 a0_1 a0_2 a0_3 a1_0 a1_1 a1_2 _ _ l2 t289 _ ?side1 ?side2 A4.out).mono ?_); (case side1 => repeat (first | exact (Kd.C_below HR2.out HB.out) | (with_reducible refine Kd.C_alloc ?_ _) | (with_reducible refine Kd.C_drewN ?_ _) | (with_reducible refine Kd.C_drew ?_))); (case side2 => exact HC2.out); rintro e w52 ⟨rfl, hb⟩; refine ⟨_, rfl, ?_⟩; have n0_ := Aside0.mk (blk_below BK286.out hb); have n1_ := Aside0.mk (blk_below BK287.out hb); have n2_ := Aside0.mk (blk_below BK288.out hb); have n3_ := Aside0.mk (below_step HB.out hb); clear BK286; clear BK287; clear BK288; clear HB; have BK286 := n0_; have BK287 := n1_; have BK288 := n2_; have HB := n3_; clear n0_ n1_ n2_ n3_; (try clear hb); (try clear hb2); (try clear hk); (try clear hi); have hcz53_0 := blk_c BK288.out 0 rfl; have hcz53_1 := blk_c BK288.out 1 rfl; have hcz53_2 := blk_c BK288.out 2 rfl; have hfz53_0 := blk_frozen BK288.out 0; have hfz53_1 := blk_frozen BK288.out 1; have hfz53_2 := blk_frozen BK288.out 2))
  refine bodyPost_ret (results_ct rfl _ _ gb288 47 #[.int .i64 0, .int .i64 0, .int .i64 0] (0, 0) _ rfl (by (with_reducible repeat (first | refine blk_drewN ?_ _ | refine blk_drew ?_ | refine blk_alloc ?_ _)); refine blk_put (cs := #[.int .i64 0, .int .i64 0, .int .i64 0]) ?_ 2 _ rfl; (with_reducible repeat (first | refine blk_drewN ?_ _ | refine blk_drew ?_ | refine blk_alloc ?_ _)); refine blk_put (cs := #[.int .i64 0, .int .i64 0, .int .i64 0]) ?_ 1 _ rfl; (with_reducible repeat (first | refine blk_drewN ?_ _ | refine blk_drew ?_ | refine blk_alloc ?_ _)); refine blk_put (cs := #[.int .i64 0, .int .i64 0, .int .i64 0]) ?_ 0 _ rfl; (with_reducible repeat (first | refine blk_drewN ?_ _ | refine blk_drew ?_ | refine blk_alloc ?_ _)); exact BK288.out) Tryz.underlying47 rfl (by kernel_rfl)) rfl ?_
  exact ⟨by first | rfl | (simp [errW_none, errW_some] <;> rfl) | (simp [*, errW_none, errW_some] <;> rfl), by repeat (first | (with_reducible first | exact HB.out | apply below_alloc | apply pw_below_drewN | apply below_drew1 | refine below_set ?_ GE286.out | refine below_set ?_ GE287.out | refine below_set ?_ GE288.out) | exact HB.out)⟩

/-! ### spec_l00In: function 103 -/
def spec_l00In.f (a0 : Int) (a1 : Int) (a2 : Int) : Option (Bool) := if a0 ≥ a1 then (some (decide (a0 ≤ a2))) else (some false)
set_option maxHeartbeats 8000000 in
set_option maxRecDepth 100000 in
theorem spec_l00In.calls (a0 : Int) (a1 : Int) (a2 : Int) (r : Bool) (w : World) (h : spec_l00In.f a0 a1 a2 = some r) :
  Calls Tryz.prog 103 #[.int .i64 a0, .int .i64 a1, .int .i64 a2] w fun e w' => e = .returned (.bool r) ∧ Drawn0 w w' := by
 have H : (if a0 ≥ a1 then (some (decide (a0 ≤ a2))) else (some false)) = some r := h
 clear h
 by_cases c4 : a0 ≥ a1
 ·rw [if_pos c4] at H
  have c4b0 : decide (a1 ≤ a0) = true := decide_eq_true c4
  clear c4
  obtain rfl := Option.some.inj H
  go_enter Tryz.func103, Tryz.ntmps103
  go_wp2
  go_ret
  exact ⟨by first | rfl | (simp; done) | (simp [*]; done), by repeat (first | exact Drawn0.refl _ | apply Drawn0.step)⟩
 ·rw [if_neg c4] at H
  have c4b0 : decide (a1 ≤ a0) = false := decide_eq_false c4
  clear c4
  obtain rfl := Option.some.inj H
  go_enter Tryz.func103, Tryz.ntmps103
  go_wp2
  go_ret
  exact ⟨by first | rfl | (simp; done) | (simp [*]; done), by repeat (first | exact Drawn0.refl _ | apply Drawn0.step)⟩

end Go.Proofs.YtiehbagnebjadaaGreatDoor.Q
