-- Written by wip/mk.py of this repository (a run of the kit's print with hand-proved leaves added); Lean checks it.
import Derived.Test.YtldhgldknefjdaaQx0
import Derived.Test.YtldhgldknefjdaaQx2
import Derived.Test.YtldhgldknefjdaaQx3
import Derived.Test.YtldhgldknefjdaaQx4
import Derived.Test.YtldhgldknefjdaaQx5
import Derived.Test.YtldhgldknefjdaaQx11
namespace Go.Proofs.Ytldhgldknefjdaa.Q
open Go.RowKit Go.Proofs.YtldhgldknefjdaaW.PrintWords Go.Proofs.YtldhgldknefjdaaW.PrintLast Go.Proofs.YtldhgldknefjdaaW.PrintMore
attribute [local go_sem] max2_int min2_int max_two min_two max_three min_three max_four min_four   -- for this text's walks alone
set_option linter.unusedVariables false
set_option linter.unusedSimpArgs false

/-! ### spec_SheetsLeft: function 40 -/
mutual
def spec_SheetsLeft.j0 : Nat → Int → Int → Bool → Int → Int → Int → Int → Int → Int → Int → Option (Int × Int)
  | 0, _, _, _, _, _, _, _, _, _, _ => none
  | k + 1, x2, x3, x24, x428000, x428001, x428002, x428003, x429000, x429001, x429002 => if x24 = true then (some (0, 2)) else (spec_SheetsLeft.l0 k x2 x3 0 x428000 x428001 x428002 x428003 x429000 x429001 x429002)
def spec_SheetsLeft.l0 : Nat → Int → Int → Int → Int → Int → Int → Int → Int → Int → Int → Option (Int × Int)
  | 0, _, _, _, _, _, _, _, _, _, _ => none
  | k + 1, x2, x3, x10, x428000, x428001, x428002, x428003, x429000, x429001, x429002 => (spec_l04Ready.f k x428000 x428001 x428002 x428003 x429000 x429001 x429002 x2 x3).bind fun bt432 => (if bt432.2.2.2 = true then (spec_SheetsLeft.l0 k x2 x3 (wrap64 (x10 + 1)) x428000 x428001 x428002 x428003 bt432.1 bt432.2.1 bt432.2.2.1) else (some (x10, 0)))
end
def spec_SheetsLeft.f (k : Nat) (a0_0 : Int) (a0_1 : Int) (a0_2 : Int) (a0_3 : Int) (a1_0 : Int) (a1_1 : Int) (a1_2 : Int) (a2 : Int) (a3 : Int) : Option (Int × Int) := (spec_l04Ok.f a0_0 a0_1 a0_2 a0_3 a1_0 a1_1 a1_2).bind fun t429 => (if t429 = true then ((spec_l00In.f a2 1 5000).bind fun t430 => (if t430 = true then ((spec_l00In.f a3 0 36).bind fun t431 => (spec_SheetsLeft.j0 k a2 a3 (!t431) a0_0 a0_1 a0_2 a0_3 a1_0 a1_1 a1_2)) else (spec_SheetsLeft.j0 k a2 a3 true a0_0 a0_1 a0_2 a0_3 a1_0 a1_1 a1_2))) else (some (0, 1)))
theorem spec_SheetsLeft.mono_l : ∀ k, (∀ y0 y1 y2 y3 y4 y5 y6 y7 y8 y9, LeO (spec_SheetsLeft.j0 k y0 y1 y2 y3 y4 y5 y6 y7 y8 y9) (spec_SheetsLeft.j0 (k + 1) y0 y1 y2 y3 y4 y5 y6 y7 y8 y9)) ∧ (∀ y0 y1 y2 y3 y4 y5 y6 y7 y8 y9, LeO (spec_SheetsLeft.l0 k y0 y1 y2 y3 y4 y5 y6 y7 y8 y9) (spec_SheetsLeft.l0 (k + 1) y0 y1 y2 y3 y4 y5 y6 y7 y8 y9))
  | 0 => ⟨fun _ _ _ _ _ _ _ _ _ _ r h => by simp [spec_SheetsLeft.j0] at h, fun _ _ _ _ _ _ _ _ _ _ r h => by simp [spec_SheetsLeft.l0] at h⟩
  | k + 1 => by
    obtain ⟨ih0, ih1⟩ := spec_SheetsLeft.mono_l k
    refine ⟨?_, ?_⟩
    · intro y0 y1 y2 y3 y4 y5 y6 y7 y8 y9
      unfold spec_SheetsLeft.j0
      repeat' first
      | (with_reducible exact ih0 _ _ _ _ _ _ _ _ _ _)
      | (with_reducible exact ih1 _ _ _ _ _ _ _ _ _ _)
      | (with_reducible exact spec_l04Ready.mono _ _ _ _ _ _ _ _ _ _)
      | (with_reducible exact LeO.refl _)
      | (with_reducible exact LeO.none _)
      | (with_reducible refine LeO.ite ?_ ?_)
      | (with_reducible refine LeO.bind ?_ (fun _ => ?_))
      | exact ih0 _ _ _ _ _ _ _ _ _ _
      | exact ih1 _ _ _ _ _ _ _ _ _ _
      | exact spec_l04Ready.mono _ _ _ _ _ _ _ _ _ _
      | exact LeO.none _
      | refine LeO.ite ?_ ?_
      | refine LeO.bind ?_ (fun _ => ?_)
    · intro y0 y1 y2 y3 y4 y5 y6 y7 y8 y9
      unfold spec_SheetsLeft.l0
      repeat' first
      | (with_reducible exact ih0 _ _ _ _ _ _ _ _ _ _)
      | (with_reducible exact ih1 _ _ _ _ _ _ _ _ _ _)
      | (with_reducible exact spec_l04Ready.mono _ _ _ _ _ _ _ _ _ _)
      | (with_reducible exact LeO.refl _)
      | (with_reducible exact LeO.none _)
      | (with_reducible refine LeO.ite ?_ ?_)
      | (with_reducible refine LeO.bind ?_ (fun _ => ?_))
      | exact ih0 _ _ _ _ _ _ _ _ _ _
      | exact ih1 _ _ _ _ _ _ _ _ _ _
      | exact spec_l04Ready.mono _ _ _ _ _ _ _ _ _ _
      | exact LeO.none _
      | refine LeO.ite ?_ ?_
      | refine LeO.bind ?_ (fun _ => ?_)
theorem spec_SheetsLeft.mono : ∀ a0 a1 a2 a3 a4 a5 a6 a7 a8 k, LeO (spec_SheetsLeft.f k a0 a1 a2 a3 a4 a5 a6 a7 a8) (spec_SheetsLeft.f (k + 1) a0 a1 a2 a3 a4 a5 a6 a7 a8) := by
  intro a0 a1 a2 a3 a4 a5 a6 a7 a8 k
  obtain ⟨ih0, ih1⟩ := spec_SheetsLeft.mono_l k
  unfold spec_SheetsLeft.f
  repeat' first
      | (with_reducible exact ih0 _ _ _ _ _ _ _ _ _ _)
      | (with_reducible exact ih1 _ _ _ _ _ _ _ _ _ _)
      | (with_reducible exact spec_l04Ready.mono _ _ _ _ _ _ _ _ _ _)
      | (with_reducible exact LeO.refl _)
      | (with_reducible exact LeO.none _)
      | (with_reducible refine LeO.ite ?_ ?_)
      | (with_reducible refine LeO.bind ?_ (fun _ => ?_))
      | exact ih0 _ _ _ _ _ _ _ _ _ _
      | exact ih1 _ _ _ _ _ _ _ _ _ _
      | exact spec_l04Ready.mono _ _ _ _ _ _ _ _ _ _
      | exact LeO.none _
      | refine LeO.ite ?_ ?_
      | refine LeO.bind ?_ (fun _ => ?_)
set_option maxHeartbeats 8000000 in
set_option maxRecDepth 100000 in
theorem spec_SheetsLeft.calls (k : Nat) (a0_0 : Int) (a0_1 : Int) (a0_2 : Int) (a0_3 : Int) (a1_0 : Int) (a1_1 : Int) (a1_2 : Int) (a2 : Int) (a3 : Int) (r1 : Int) (r2 : Int) (w : World) (h : spec_SheetsLeft.f k a0_0 a0_1 a0_2 a0_3 a1_0 a1_1 a1_2 a2 a3 = some (r1, r2)) :
    Calls Try.prog 40 #[.agg #[.int .i64 a0_0, .int .i64 a0_1, .int .i8 a0_2, .int .i8 a0_3], .agg #[.int .i64 a1_0, .int .i64 a1_1, .int .i64 a1_2], .int .i64 a2, .int .i64 a3] w fun e w' => e = .returned (.tuple #[.int .i64 r1, .int .i64 r2]) ∧ Below w.heap.size w w' := by
  have hu43 := Try.underlying43
  have hu45 := Try.underlying45
  have HB := Aside0.mk (Below.refl w.heap.size w)
  have H : ((spec_l04Ok.f a0_0 a0_1 a0_2 a0_3 a1_0 a1_1 a1_2).bind fun t429 => (if t429 = true then ((spec_l00In.f a2 1 5000).bind fun t430 => (if t430 = true then ((spec_l00In.f a3 0 36).bind fun t431 => (spec_SheetsLeft.j0 k a2 a3 (!t431) a0_0 a0_1 a0_2 a0_3 a1_0 a1_1 a1_2)) else (spec_SheetsLeft.j0 k a2 a3 true a0_0 a0_1 a0_2 a0_3 a1_0 a1_1 a1_2))) else (some (0, 1)))) = some (r1, r2) := h
  clear h
  replace H := Option.bind_eq_some_iff.mp H
  obtain ⟨t429, A50, H⟩ := H
  replace H : (if t429 = true then ((spec_l00In.f a2 1 5000).bind fun t430 => (if t430 = true then ((spec_l00In.f a3 0 36).bind fun t431 => (spec_SheetsLeft.j0 k a2 a3 (!t431) a0_0 a0_1 a0_2 a0_3 a1_0 a1_1 a1_2)) else (spec_SheetsLeft.j0 k a2 a3 true a0_0 a0_1 a0_2 a0_3 a1_0 a1_1 a1_2))) else (some (0, 1))) = some (r1, r2) := H
  have A5 := Aside0.mk A50
  clear A50
  by_cases c6 : t429 = true
  · subst c6
    have H1 : ((spec_l00In.f a2 1 5000).bind fun t430 => (if t430 = true then ((spec_l00In.f a3 0 36).bind fun t431 => (spec_SheetsLeft.j0 k a2 a3 (!t431) a0_0 a0_1 a0_2 a0_3 a1_0 a1_1 a1_2)) else (spec_SheetsLeft.j0 k a2 a3 true a0_0 a0_1 a0_2 a0_3 a1_0 a1_1 a1_2))) = some (r1, r2) := by rw [if_pos rfl] at H; exact H
    clear H
    have H := H1
    clear H1
    have HC7 := Aside0.mk H
    clear H
    go_enter Try.func40, Try.ntmps40
    go_upto_region 3 with (first | ((with_reducible refine gate_dst (N := 4) rfl ?_); refine box_event ?hg (N := 4) ?hd (cs := #[.int .i64 a0_0, .int .i64 a0_1, .int .i8 a0_2, .int .i8 a0_3]) (t := 43) ?hr ?_; (case hd => rfl); (case hg => rfl); (case hr => first | (go_simp; done) | (go_simp; rfl)); intro gb427 hg w8 hbox hb; have n0_ := Aside0.mk (below_step HB.out hb); have n1_ := Aside0.mk (hbox); have n2_ := Aside0.mk ((by rw [hg]; exact (below_size HB.out) : w.heap.size ≤ gb427)); have n3_ := Aside0.mk ((by rw [hg]; exact (below_size HB.out) : w.heap.size ≤ gb427)); clear HB; have HB := n0_; have BK427 := n1_; have GW427 := n2_; have GE427 := n3_; clear n0_ n1_ n2_ n3_; clear hb hbox hg) | ((with_reducible refine gate_dst (N := 5) rfl ?_); refine box_event ?hg (N := 5) ?hd (cs := #[.int .i64 a1_0, .int .i64 a1_1, .int .i64 a1_2]) (t := 45) ?hr ?_; (case hd => rfl); (case hg => rfl); (case hr => first | (go_simp; done) | (go_simp; rfl)); intro gb428 hg w9 hbox hb; have n0_ := Aside0.mk (blk_below BK427.out hb); have n1_ := Aside0.mk (below_step HB.out hb); have n2_ := Aside0.mk (hbox); have n3_ := Aside0.mk ((by rw [hg]; exact (below_size HB.out) : w.heap.size ≤ gb428)); have n4_ := Aside0.mk ((by rw [hg]; exact (below_size HB.out) : w.heap.size ≤ gb428)); have n5_ := Aside0.mk ((by rw [hg]; exact Nat.ne_of_lt (blk_lt BK427.out) : gb427 ≠ gb428)); have n6_ := Aside0.mk ((by rw [hg]; exact Nat.ne_of_gt (blk_lt BK427.out) : gb428 ≠ gb427)); clear BK427; clear HB; have BK427 := n0_; have HB := n1_; have BK428 := n2_; have GW428 := n3_; have GE428 := n4_; have NB427_428 := n5_; have NB428_427 := n6_; clear n0_ n1_ n2_ n3_ n4_ n5_ n6_; clear hb hbox hg; have hnb10 := NB427_428.out; have hnc10 := NB428_427.out; have hcz11_0 := blk_c BK427.out 0 rfl; have hcz11_1 := blk_c BK427.out 1 rfl; have hcz11_2 := blk_c BK427.out 2 rfl; have hcz11_3 := blk_c BK427.out 3 rfl; have hfz11_0 := blk_frozen BK427.out 0; have hfz11_1 := blk_frozen BK427.out 1; have hfz11_2 := blk_frozen BK427.out 2; have hfz11_3 := blk_frozen BK427.out 3; have hcz12_0 := blk_c BK428.out 0 rfl; have hcz12_1 := blk_c BK428.out 1 rfl; have hcz12_2 := blk_c BK428.out 2 rfl; have hfz12_0 := blk_frozen BK428.out 0; have hfz12_1 := blk_frozen BK428.out 1; have hfz12_2 := blk_frozen BK428.out 2) | ((with_reducible refine gate_callee (f := 56) rfl ?_); refine goesL_ (some 15) rfl rfl Try.func56 (by kernel_rfl) rfl #[.agg #[.int .i64 a0_0, .int .i64 a0_1, .int .i8 a0_2, .int .i8 a0_3], .agg #[.int .i64 a1_0, .int .i64 a1_1, .int .i64 a1_2]] rfl (by (try simp only [List.map_toArray, List.map_cons, List.map_nil]); first | done | rfl | (simp only [List.length_drop, List.length_take]; rfl)) ?_; (with_reducible refine (spec_l04Ok.calls a0_0 a0_1 a0_2 a0_3 a1_0 a1_1 a1_2 true _ A5.out).mono ?_); rintro e w13 ⟨rfl, hb⟩; refine ⟨_, rfl, ?_⟩; have n0_ := Aside0.mk (blk_below BK427.out hb); have n1_ := Aside0.mk (blk_below BK428.out hb); have n2_ := Aside0.mk (below_step HB.out hb); clear BK427; clear BK428; clear HB; have BK427 := n0_; have BK428 := n1_; have HB := n2_; clear n0_ n1_ n2_; (try clear hb); (try clear hb2); (try clear hk); (try clear hi)))
    (try simp only [Act.put, List.setIfInBounds_toArray, List.set_cons_zero, List.set_cons_succ])
    go_cut [24] (fun v24 wc => ∃ (kq : Nat) (x24_6 : Bool), v24 = .bool x24_6 ∧ Aside0 (spec_SheetsLeft.j0 kq a2 a3 x24_6 a0_0 a0_1 a0_2 a0_3 a1_0 a1_1 a1_2 = some (r1, r2)) ∧ Aside0 (kq ≤ k) ∧ Aside0 (wc.heap[gb427]? = some (.cells #[.int .i64 a0_0, .int .i64 a0_1, .int .i8 a0_2, .int .i8 a0_3] 43 (0, 0))) ∧ Aside0 (wc.heap[gb428]? = some (.cells #[.int .i64 a1_0, .int .i64 a1_1, .int .i64 a1_2] 45 (0, 0))) ∧ Aside0 (Below w.heap.size w wc))
    case first =>
      have H := HC7.out
      clear HC7
      replace H := Option.bind_eq_some_iff.mp H
      obtain ⟨t430, A140, H⟩ := H
      replace H : (if t430 = true then ((spec_l00In.f a3 0 36).bind fun t431 => (spec_SheetsLeft.j0 k a2 a3 (!t431) a0_0 a0_1 a0_2 a0_3 a1_0 a1_1 a1_2)) else (spec_SheetsLeft.j0 k a2 a3 true a0_0 a0_1 a0_2 a0_3 a1_0 a1_1 a1_2)) = some (r1, r2) := H
      have A14 := Aside0.mk A140
      clear A140
      by_cases c15 : t430 = true
      · subst c15
        have H1 : ((spec_l00In.f a3 0 36).bind fun t431 => (spec_SheetsLeft.j0 k a2 a3 (!t431) a0_0 a0_1 a0_2 a0_3 a1_0 a1_1 a1_2)) = some (r1, r2) := by rw [if_pos rfl] at H; exact H
        clear H
        have H := H1
        clear H1
        replace H := Option.bind_eq_some_iff.mp H
        obtain ⟨t431, A160, H⟩ := H
        replace H : (spec_SheetsLeft.j0 k a2 a3 (!t431) a0_0 a0_1 a0_2 a0_3 a1_0 a1_1 a1_2) = some (r1, r2) := H
        have A16 := Aside0.mk A160
        clear A160
        have H' := Aside0.mk H
        clear H
        go_wp2_with (first | ((with_reducible refine gate_callee (f := 63) rfl ?_); refine goesL_ (some 18) rfl rfl Try.func63 (by kernel_rfl) rfl #[.int .i64 a2, .int .i64 1, .int .i64 5000] rfl (by (try simp only [List.map_toArray, List.map_cons, List.map_nil]); first | done | rfl | (simp only [List.length_drop, List.length_take]; rfl)) ?_; (with_reducible refine (spec_l00In.calls a2 1 5000 true _ A14.out).mono ?_); rintro e w' ⟨rfl, ⟨nd, rfl⟩⟩; refine ⟨_, rfl, ?_⟩) | (go_at_call 63; (with_reducible refine (spec_l00In.calls a3 0 36 t431 _ A16.out).mono ?_); rintro e w' ⟨rfl, ⟨nd, rfl⟩⟩))
        go_meet
        case rel => exact ⟨_, (!t431), (by first | rfl | (simp; done) | (simp [*]; done)), H', ⟨by first | omega | exact Nat.le_refl _⟩, ⟨by (with_reducible repeat (first | refine blk_drewN ?_ _ | refine blk_drew ?_ | refine blk_alloc ?_ _)); exact BK427.out⟩, ⟨by (with_reducible repeat (first | refine blk_drewN ?_ _ | refine blk_drew ?_ | refine blk_alloc ?_ _)); exact BK428.out⟩, ⟨by repeat (first | (with_reducible first | exact HB.out | apply below_alloc | apply pw_below_drewN | apply below_drew1 | refine below_set ?_ GE427.out | refine below_set ?_ GE428.out) | exact HB.out)⟩⟩
      · replace c15 := Bool.eq_false_iff.mpr c15
        subst c15
        have H1 : (spec_SheetsLeft.j0 k a2 a3 true a0_0 a0_1 a0_2 a0_3 a1_0 a1_1 a1_2) = some (r1, r2) := by rw [if_neg (show ¬ (false = true) by decide)] at H; exact H
        clear H
        have H := H1
        clear H1
        have H' := Aside0.mk H
        clear H
        go_wp2_with (first | ((with_reducible refine gate_callee (f := 63) rfl ?_); refine goesL_ (some 18) rfl rfl Try.func63 (by kernel_rfl) rfl #[.int .i64 a2, .int .i64 1, .int .i64 5000] rfl (by (try simp only [List.map_toArray, List.map_cons, List.map_nil]); first | done | rfl | (simp only [List.length_drop, List.length_take]; rfl)) ?_; (with_reducible refine (spec_l00In.calls a2 1 5000 false _ A14.out).mono ?_); rintro e w' ⟨rfl, ⟨nd, rfl⟩⟩; refine ⟨_, rfl, ?_⟩))
        go_meet
        case rel => exact ⟨_, (true), (by first | rfl | (simp; done) | (simp [*]; done)), H', ⟨by first | omega | exact Nat.le_refl _⟩, ⟨by (with_reducible repeat (first | refine blk_drewN ?_ _ | refine blk_drew ?_ | refine blk_alloc ?_ _)); exact BK427.out⟩, ⟨by (with_reducible repeat (first | refine blk_drewN ?_ _ | refine blk_drew ?_ | refine blk_alloc ?_ _)); exact BK428.out⟩, ⟨by repeat (first | (with_reducible first | exact HB.out | apply below_alloc | apply pw_below_drewN | apply below_drew1 | refine below_set ?_ GE427.out | refine below_set ?_ GE428.out) | exact HB.out)⟩⟩
    case rest =>
      clear HC7
      try clear c1
      try clear p2
      try clear c4
      try clear c5
      try clear c6
      try clear c10
      try clear c15
      try clear hcz11_0
      try clear hcz11_1
      try clear hcz11_2
      try clear hcz11_3
      try clear hcz12_0
      try clear hcz12_1
      try clear hcz12_2
      try clear hfz11_0
      try clear hfz11_1
      try clear hfz11_2
      try clear hfz11_3
      try clear hfz12_0
      try clear hfz12_1
      try clear hfz12_2
      obtain ⟨kq, x24_6, rfl, HA, HJ6, BK427, BK428, HB⟩ := hcut
      cases kq with
      | zero => exact absurd HA.out (by simp [spec_SheetsLeft.j0])
      | succ kj6 =>
        have H := HA.out
        clear HA
        simp only [spec_SheetsLeft.j0] at H
        by_cases c17 : x24_6 = true
        · subst c17
          have H1 : (some (0, 2)) = some (r1, r2) := by rw [if_pos rfl] at H; exact H
          clear H
          have H := H1
          clear H1
          simp only [Option.some.injEq, Prod.mk.injEq] at H
          obtain ⟨rfl, rfl⟩ := H
          go_wp2
          go_ret2
          exact ⟨by first | rfl | (simp [errW_none, errW_some] <;> rfl) | (simp [*, errW_none, errW_some] <;> rfl), by repeat (first | (with_reducible first | exact HB.out | apply below_alloc | apply pw_below_drewN | apply below_drew1 | refine below_set ?_ GE427.out | refine below_set ?_ GE428.out) | exact HB.out)⟩
        · replace c17 := Bool.eq_false_iff.mpr c17
          subst c17
          have H1 : (spec_SheetsLeft.l0 kj6 a2 a3 0 a0_0 a0_1 a0_2 a0_3 a1_0 a1_1 a1_2) = some (r1, r2) := by rw [if_neg (show ¬ (false = true) by decide)] at H; exact H
          clear H
          have H := H1
          clear H1
          have H' := Aside0.mk H
          clear H
          go_wp2
          go_loopg [10] kj6 (fun kq v10 w' => ∃ (x10_2 : Int) (x429000_2 : Int) (x429001_2 : Int) (x429002_2 : Int), v10 = .int .i64 x10_2 ∧ Aside0 (spec_SheetsLeft.l0 kq a2 a3 x10_2 a0_0 a0_1 a0_2 a0_3 x429000_2 x429001_2 x429002_2 = some (r1, r2)) ∧ Aside0 (kq ≤ kj6) ∧ Aside0 (w'.heap[gb427]? = some (.cells #[.int .i64 a0_0, .int .i64 a0_1, .int .i8 a0_2, .int .i8 a0_3] 43 (0, 0))) ∧ Aside0 (w'.heap[gb428]? = some (.cells #[.int .i64 x429000_2, .int .i64 x429001_2, .int .i64 x429002_2] 45 (0, 0))) ∧ Aside0 (Below w.heap.size w w'))
          case atStart => exact ⟨(0), (a1_0), (a1_1), (a1_2), (by first | rfl | (simp; done) | (simp [*]; done)), H', ⟨Nat.le_refl _⟩, ⟨by (with_reducible repeat (first | refine blk_drewN ?_ _ | refine blk_drew ?_ | refine blk_alloc ?_ _)); exact BK427.out⟩, ⟨by (with_reducible repeat (first | refine blk_drewN ?_ _ | refine blk_drew ?_ | refine blk_alloc ?_ _)); exact BK428.out⟩, ⟨by repeat (first | (with_reducible first | exact HB.out | apply below_alloc | apply pw_below_drewN | apply below_drew1 | refine below_set ?_ GE427.out | refine below_set ?_ GE428.out) | exact HB.out)⟩⟩
          case round =>
            clear H'
            try clear c1
            try clear p2
            try clear c4
            try clear c5
            try clear c6
            try clear c10
            try clear c15
            try clear c17
            try clear hcz11_0
            try clear hcz11_1
            try clear hcz11_2
            try clear hcz11_3
            try clear hcz12_0
            try clear hcz12_1
            try clear hcz12_2
            try clear hfz11_0
            try clear hfz11_1
            try clear hfz11_2
            try clear hfz11_3
            try clear hfz12_0
            try clear hfz12_1
            try clear hfz12_2
            try clear p2
            obtain ⟨x10_2, x429000_2, x429001_2, x429002_2, rfl, HA, HK2, BK427, BK428, HB⟩ := hrel
            cases gk with
            | zero => exact absurd HA.out (by simp [spec_SheetsLeft.l0])
            | succ k2 =>
              have H := HA.out
              clear HA
              simp only [spec_SheetsLeft.l0] at H
              replace H := Option.bind_eq_some_iff.mp H
              obtain ⟨⟨t432, t433, t434, t435⟩, A180, H⟩ := H
              replace H : (if t435 = true then (spec_SheetsLeft.l0 k2 a2 a3 (wrap64 (x10_2 + 1)) a0_0 a0_1 a0_2 a0_3 t432 t433 t434) else (some (x10_2, 0))) = some (r1, r2) := H
              have A18 := Aside0.mk A180
              clear A180
              by_cases c19 : t435 = true
              · subst c19
                have H1 : (spec_SheetsLeft.l0 k2 a2 a3 (wrap64 (x10_2 + 1)) a0_0 a0_1 a0_2 a0_3 t432 t433 t434) = some (r1, r2) := by rw [if_pos rfl] at H; exact H
                clear H
                have H := H1
                clear H1
                have H' := Aside0.mk H
                clear H
                have hnb20 := NB427_428.out
                have hnc20 := NB428_427.out
                have hcz21_0 := blk_c BK427.out 0 rfl
                have hcz21_1 := blk_c BK427.out 1 rfl
                have hcz21_2 := blk_c BK427.out 2 rfl
                have hcz21_3 := blk_c BK427.out 3 rfl
                have hfz21_0 := blk_frozen BK427.out 0
                have hfz21_1 := blk_frozen BK427.out 1
                have hfz21_2 := blk_frozen BK427.out 2
                have hfz21_3 := blk_frozen BK427.out 3
                have hcz22_0 := blk_c BK428.out 0 rfl
                have hcz22_1 := blk_c BK428.out 1 rfl
                have hcz22_2 := blk_c BK428.out 2 rfl
                have hfz22_0 := blk_frozen BK428.out 0
                have hfz22_1 := blk_frozen BK428.out 1
                have hfz22_2 := blk_frozen BK428.out 2
                go_wp2_with (first | ((with_reducible refine gate_callee (f := 74) rfl ?_); refine goesL_ (some 30) rfl rfl Try.func74 (by kernel_rfl) rfl #[.agg #[.int .i64 a0_0, .int .i64 a0_1, .int .i8 a0_2, .int .i8 a0_3], .agg #[.int .i64 x429000_2, .int .i64 x429001_2, .int .i64 x429002_2], .int .i64 a2, .int .i64 a3] rfl (by (try simp only [List.map_toArray, List.map_cons, List.map_nil]); first | done | rfl | (simp only [List.length_drop, List.length_take]; rfl)) ?_; (with_reducible refine (spec_l04Ready.calls k2 a0_0 a0_1 a0_2 a0_3 x429000_2 x429001_2 x429002_2 a2 a3 t432 t433 t434 true _ A18.out).mono ?_); rintro e w23 ⟨rfl, hb⟩; refine ⟨_, rfl, ?_⟩; have n0_ := Aside0.mk (blk_below BK427.out hb); have n1_ := Aside0.mk (blk_below BK428.out hb); have n2_ := Aside0.mk (below_step HB.out hb); clear BK427; clear BK428; clear HB; have BK427 := n0_; have BK428 := n1_; have HB := n2_; clear n0_ n1_ n2_; (try clear hb); (try clear hb2); (try clear hk); (try clear hi)) | ((with_reducible refine gate_dst (N := 11) rfl ?_); refine box_event ?hg (N := 11) ?hd (cs := #[.int .i64 0, .int .i64 0, .int .i64 0]) (t := 45) ?hr ?_; (case hd => rfl); (case hg => rfl); (case hr => first | (go_simp; done) | (go_simp; rfl)); intro gb436 hg w24 hbox hb; have n0_ := Aside0.mk (blk_below BK427.out hb); have n1_ := Aside0.mk (blk_below BK428.out hb); have n2_ := Aside0.mk (below_step HB.out hb); have n3_ := Aside0.mk (hbox); have n4_ := Aside0.mk ((by rw [hg]; exact (below_size HB.out) : w.heap.size ≤ gb436)); have n5_ := Aside0.mk ((by rw [hg]; exact (below_size HB.out) : w.heap.size ≤ gb436)); have n6_ := Aside0.mk ((by rw [hg]; exact Nat.ne_of_lt (blk_lt BK427.out) : gb427 ≠ gb436)); have n7_ := Aside0.mk ((by rw [hg]; exact Nat.ne_of_gt (blk_lt BK427.out) : gb436 ≠ gb427)); have n8_ := Aside0.mk ((by rw [hg]; exact Nat.ne_of_lt (blk_lt BK428.out) : gb428 ≠ gb436)); have n9_ := Aside0.mk ((by rw [hg]; exact Nat.ne_of_gt (blk_lt BK428.out) : gb436 ≠ gb428)); clear BK427; clear BK428; clear HB; have BK427 := n0_; have BK428 := n1_; have HB := n2_; have BK436 := n3_; have GW436 := n4_; have GE436 := n5_; have NB427_436 := n6_; have NB436_427 := n7_; have NB428_436 := n8_; have NB436_428 := n9_; clear n0_ n1_ n2_ n3_ n4_ n5_ n6_ n7_ n8_ n9_; clear hb hbox hg; have hnb25 := NB436_427.out; have hnc25 := NB427_436.out; have hnb26 := NB436_428.out; have hnc26 := NB428_436.out; have hcz27_0 := blk_c BK436.out 0 rfl; have hcz27_1 := blk_c BK436.out 1 rfl; have hcz27_2 := blk_c BK436.out 2 rfl; have hfz27_0 := blk_frozen BK436.out 0; have hfz27_1 := blk_frozen BK436.out 1; have hfz27_2 := blk_frozen BK436.out 2; have hcz28_0 := blk_c BK428.out 0 rfl; have hcz28_1 := blk_c BK428.out 1 rfl; have hcz28_2 := blk_c BK428.out 2 rfl; have hfz28_0 := blk_frozen BK428.out 0; have hfz28_1 := blk_frozen BK428.out 1; have hfz28_2 := blk_frozen BK428.out 2))
                go_roundg k2
                case measure => have := HJ6.out; have := HK2.out; omega
                case rel => exact ⟨(wrap64 (x10_2 + 1)), (t432), (t433), (t434), (by first | rfl | (simp; done) | (simp [*]; done)), H', ⟨by have := HJ6.out; have := HK2.out; omega⟩, ⟨by (with_reducible repeat (first | refine blk_drewN ?_ _ | refine blk_drew ?_ | refine blk_alloc ?_ _)); refine blk_far ?_ NB427_428.out _; (with_reducible repeat (first | refine blk_drewN ?_ _ | refine blk_drew ?_ | refine blk_alloc ?_ _)); refine blk_far ?_ NB427_428.out _; (with_reducible repeat (first | refine blk_drewN ?_ _ | refine blk_drew ?_ | refine blk_alloc ?_ _)); refine blk_far ?_ NB427_428.out _; (with_reducible repeat (first | refine blk_drewN ?_ _ | refine blk_drew ?_ | refine blk_alloc ?_ _)); refine blk_far ?_ NB427_436.out _; (with_reducible repeat (first | refine blk_drewN ?_ _ | refine blk_drew ?_ | refine blk_alloc ?_ _)); refine blk_far ?_ NB427_436.out _; (with_reducible repeat (first | refine blk_drewN ?_ _ | refine blk_drew ?_ | refine blk_alloc ?_ _)); refine blk_far ?_ NB427_436.out _; (with_reducible repeat (first | refine blk_drewN ?_ _ | refine blk_drew ?_ | refine blk_alloc ?_ _)); exact BK427.out⟩, ⟨by (with_reducible repeat (first | refine blk_drewN ?_ _ | refine blk_drew ?_ | refine blk_alloc ?_ _)); refine blk_put (cs := #[.int .i64 t432, .int .i64 t433, .int .i64 x429002_2]) ?_ 2 _ rfl; (with_reducible repeat (first | refine blk_drewN ?_ _ | refine blk_drew ?_ | refine blk_alloc ?_ _)); refine blk_put (cs := #[.int .i64 t432, .int .i64 x429001_2, .int .i64 x429002_2]) ?_ 1 _ rfl; (with_reducible repeat (first | refine blk_drewN ?_ _ | refine blk_drew ?_ | refine blk_alloc ?_ _)); refine blk_put (cs := #[.int .i64 x429000_2, .int .i64 x429001_2, .int .i64 x429002_2]) ?_ 0 _ rfl; (with_reducible repeat (first | refine blk_drewN ?_ _ | refine blk_drew ?_ | refine blk_alloc ?_ _)); refine blk_far ?_ NB428_436.out _; (with_reducible repeat (first | refine blk_drewN ?_ _ | refine blk_drew ?_ | refine blk_alloc ?_ _)); refine blk_far ?_ NB428_436.out _; (with_reducible repeat (first | refine blk_drewN ?_ _ | refine blk_drew ?_ | refine blk_alloc ?_ _)); refine blk_far ?_ NB428_436.out _; (with_reducible repeat (first | refine blk_drewN ?_ _ | refine blk_drew ?_ | refine blk_alloc ?_ _)); exact BK428.out⟩, ⟨by repeat (first | (with_reducible first | exact HB.out | apply below_alloc | apply pw_below_drewN | apply below_drew1 | refine below_set ?_ GE427.out | refine below_set ?_ GE428.out | refine below_set ?_ GE436.out) | exact HB.out)⟩⟩
              · replace c19 := Bool.eq_false_iff.mpr c19
                subst c19
                have H1 : (some (x10_2, 0)) = some (r1, r2) := by rw [if_neg (show ¬ (false = true) by decide)] at H; exact H
                clear H
                have H := H1
                clear H1
                simp only [Option.some.injEq, Prod.mk.injEq] at H
                obtain ⟨rfl, rfl⟩ := H
                have hnb29 := NB427_428.out
                have hnc29 := NB428_427.out
                have hcz30_0 := blk_c BK427.out 0 rfl
                have hcz30_1 := blk_c BK427.out 1 rfl
                have hcz30_2 := blk_c BK427.out 2 rfl
                have hcz30_3 := blk_c BK427.out 3 rfl
                have hfz30_0 := blk_frozen BK427.out 0
                have hfz30_1 := blk_frozen BK427.out 1
                have hfz30_2 := blk_frozen BK427.out 2
                have hfz30_3 := blk_frozen BK427.out 3
                have hcz31_0 := blk_c BK428.out 0 rfl
                have hcz31_1 := blk_c BK428.out 1 rfl
                have hcz31_2 := blk_c BK428.out 2 rfl
                have hfz31_0 := blk_frozen BK428.out 0
                have hfz31_1 := blk_frozen BK428.out 1
                have hfz31_2 := blk_frozen BK428.out 2
                go_wp2_with (first | ((with_reducible refine gate_callee (f := 74) rfl ?_); refine goesL_ (some 30) rfl rfl Try.func74 (by kernel_rfl) rfl #[.agg #[.int .i64 a0_0, .int .i64 a0_1, .int .i8 a0_2, .int .i8 a0_3], .agg #[.int .i64 x429000_2, .int .i64 x429001_2, .int .i64 x429002_2], .int .i64 a2, .int .i64 a3] rfl (by (try simp only [List.map_toArray, List.map_cons, List.map_nil]); first | done | rfl | (simp only [List.length_drop, List.length_take]; rfl)) ?_; (with_reducible refine (spec_l04Ready.calls k2 a0_0 a0_1 a0_2 a0_3 x429000_2 x429001_2 x429002_2 a2 a3 t432 t433 t434 false _ A18.out).mono ?_); rintro e w32 ⟨rfl, hb⟩; refine ⟨_, rfl, ?_⟩; have n0_ := Aside0.mk (blk_below BK427.out hb); have n1_ := Aside0.mk (blk_below BK428.out hb); have n2_ := Aside0.mk (below_step HB.out hb); clear BK427; clear BK428; clear HB; have BK427 := n0_; have BK428 := n1_; have HB := n2_; clear n0_ n1_ n2_; (try clear hb); (try clear hb2); (try clear hk); (try clear hi)) | ((with_reducible refine gate_dst (N := 11) rfl ?_); refine box_event ?hg (N := 11) ?hd (cs := #[.int .i64 0, .int .i64 0, .int .i64 0]) (t := 45) ?hr ?_; (case hd => rfl); (case hg => rfl); (case hr => first | (go_simp; done) | (go_simp; rfl)); intro gb436 hg w33 hbox hb; have n0_ := Aside0.mk (blk_below BK427.out hb); have n1_ := Aside0.mk (blk_below BK428.out hb); have n2_ := Aside0.mk (below_step HB.out hb); have n3_ := Aside0.mk (hbox); have n4_ := Aside0.mk ((by rw [hg]; exact (below_size HB.out) : w.heap.size ≤ gb436)); have n5_ := Aside0.mk ((by rw [hg]; exact (below_size HB.out) : w.heap.size ≤ gb436)); have n6_ := Aside0.mk ((by rw [hg]; exact Nat.ne_of_lt (blk_lt BK427.out) : gb427 ≠ gb436)); have n7_ := Aside0.mk ((by rw [hg]; exact Nat.ne_of_gt (blk_lt BK427.out) : gb436 ≠ gb427)); have n8_ := Aside0.mk ((by rw [hg]; exact Nat.ne_of_lt (blk_lt BK428.out) : gb428 ≠ gb436)); have n9_ := Aside0.mk ((by rw [hg]; exact Nat.ne_of_gt (blk_lt BK428.out) : gb436 ≠ gb428)); clear BK427; clear BK428; clear HB; have BK427 := n0_; have BK428 := n1_; have HB := n2_; have BK436 := n3_; have GW436 := n4_; have GE436 := n5_; have NB427_436 := n6_; have NB436_427 := n7_; have NB428_436 := n8_; have NB436_428 := n9_; clear n0_ n1_ n2_ n3_ n4_ n5_ n6_ n7_ n8_ n9_; clear hb hbox hg; have hnb34 := NB436_427.out; have hnc34 := NB427_436.out; have hnb35 := NB436_428.out; have hnc35 := NB428_436.out; have hcz36_0 := blk_c BK436.out 0 rfl; have hcz36_1 := blk_c BK436.out 1 rfl; have hcz36_2 := blk_c BK436.out 2 rfl; have hfz36_0 := blk_frozen BK436.out 0; have hfz36_1 := blk_frozen BK436.out 1; have hfz36_2 := blk_frozen BK436.out 2))
                go_ret2
                exact ⟨by first | rfl | (simp [errW_none, errW_some] <;> rfl) | (simp [*, errW_none, errW_some] <;> rfl), by repeat (first | (with_reducible first | exact HB.out | apply below_alloc | apply pw_below_drewN | apply below_drew1 | refine below_set ?_ GE427.out | refine below_set ?_ GE428.out | refine below_set ?_ GE436.out) | exact HB.out)⟩
  · replace c6 := Bool.eq_false_iff.mpr c6
    subst c6
    have H1 : (some (0, 1)) = some (r1, r2) := by rw [if_neg (show ¬ (false = true) by decide)] at H; exact H
    clear H
    have H := H1
    clear H1
    simp only [Option.some.injEq, Prod.mk.injEq] at H
    obtain ⟨rfl, rfl⟩ := H
    go_enter Try.func40, Try.ntmps40
    go_wp2_with (first | ((with_reducible refine gate_dst (N := 4) rfl ?_); refine box_event ?hg (N := 4) ?hd (cs := #[.int .i64 a0_0, .int .i64 a0_1, .int .i8 a0_2, .int .i8 a0_3]) (t := 43) ?hr ?_; (case hd => rfl); (case hg => rfl); (case hr => first | (go_simp; done) | (go_simp; rfl)); intro gb427 hg w37 hbox hb; have n0_ := Aside0.mk (below_step HB.out hb); have n1_ := Aside0.mk (hbox); have n2_ := Aside0.mk ((by rw [hg]; exact (below_size HB.out) : w.heap.size ≤ gb427)); have n3_ := Aside0.mk ((by rw [hg]; exact (below_size HB.out) : w.heap.size ≤ gb427)); clear HB; have HB := n0_; have BK427 := n1_; have GW427 := n2_; have GE427 := n3_; clear n0_ n1_ n2_ n3_; clear hb hbox hg) | ((with_reducible refine gate_dst (N := 5) rfl ?_); refine box_event ?hg (N := 5) ?hd (cs := #[.int .i64 a1_0, .int .i64 a1_1, .int .i64 a1_2]) (t := 45) ?hr ?_; (case hd => rfl); (case hg => rfl); (case hr => first | (go_simp; done) | (go_simp; rfl)); intro gb428 hg w38 hbox hb; have n0_ := Aside0.mk (blk_below BK427.out hb); have n1_ := Aside0.mk (below_step HB.out hb); have n2_ := Aside0.mk (hbox); have n3_ := Aside0.mk ((by rw [hg]; exact (below_size HB.out) : w.heap.size ≤ gb428)); have n4_ := Aside0.mk ((by rw [hg]; exact (below_size HB.out) : w.heap.size ≤ gb428)); have n5_ := Aside0.mk ((by rw [hg]; exact Nat.ne_of_lt (blk_lt BK427.out) : gb427 ≠ gb428)); have n6_ := Aside0.mk ((by rw [hg]; exact Nat.ne_of_gt (blk_lt BK427.out) : gb428 ≠ gb427)); clear BK427; clear HB; have BK427 := n0_; have HB := n1_; have BK428 := n2_; have GW428 := n3_; have GE428 := n4_; have NB427_428 := n5_; have NB428_427 := n6_; clear n0_ n1_ n2_ n3_ n4_ n5_ n6_; clear hb hbox hg; have hnb39 := NB427_428.out; have hnc39 := NB428_427.out; have hcz40_0 := blk_c BK427.out 0 rfl; have hcz40_1 := blk_c BK427.out 1 rfl; have hcz40_2 := blk_c BK427.out 2 rfl; have hcz40_3 := blk_c BK427.out 3 rfl; have hfz40_0 := blk_frozen BK427.out 0; have hfz40_1 := blk_frozen BK427.out 1; have hfz40_2 := blk_frozen BK427.out 2; have hfz40_3 := blk_frozen BK427.out 3; have hcz41_0 := blk_c BK428.out 0 rfl; have hcz41_1 := blk_c BK428.out 1 rfl; have hcz41_2 := blk_c BK428.out 2 rfl; have hfz41_0 := blk_frozen BK428.out 0; have hfz41_1 := blk_frozen BK428.out 1; have hfz41_2 := blk_frozen BK428.out 2) | ((with_reducible refine gate_callee (f := 56) rfl ?_); refine goesL_ (some 15) rfl rfl Try.func56 (by kernel_rfl) rfl #[.agg #[.int .i64 a0_0, .int .i64 a0_1, .int .i8 a0_2, .int .i8 a0_3], .agg #[.int .i64 a1_0, .int .i64 a1_1, .int .i64 a1_2]] rfl (by (try simp only [List.map_toArray, List.map_cons, List.map_nil]); first | done | rfl | (simp only [List.length_drop, List.length_take]; rfl)) ?_; (with_reducible refine (spec_l04Ok.calls a0_0 a0_1 a0_2 a0_3 a1_0 a1_1 a1_2 false _ A5.out).mono ?_); rintro e w42 ⟨rfl, hb⟩; refine ⟨_, rfl, ?_⟩; have n0_ := Aside0.mk (blk_below BK427.out hb); have n1_ := Aside0.mk (blk_below BK428.out hb); have n2_ := Aside0.mk (below_step HB.out hb); clear BK427; clear BK428; clear HB; have BK427 := n0_; have BK428 := n1_; have HB := n2_; clear n0_ n1_ n2_; (try clear hb); (try clear hb2); (try clear hk); (try clear hi)))
    go_ret2
    exact ⟨by first | rfl | (simp [errW_none, errW_some] <;> rfl) | (simp [*, errW_none, errW_some] <;> rfl), by repeat (first | (with_reducible first | exact HB.out | apply below_alloc | apply pw_below_drewN | apply below_drew1 | refine below_set ?_ GE427.out | refine below_set ?_ GE428.out) | exact HB.out)⟩

/-! ### spec_A2Areas: function 41 -/
def spec_A2Areas.l0 : Nat → List Int → Int → List Int → Int → Int → Option (List Int)
  | 0, _, _, _, _, _ => none
  | k + 1, x4, x5, x441000, x441001, x441002 => if x5 > 0 then ((spec_l00Src_pick.f x441000 x441001 x441002 200).bind fun bt447 => (if x4.length < 17592186044416 then (spec_A2Areas.l0 k (x4 ++ [wrap64 (1 + bt447.1)]) (wrap64 (x5 - 1)) x441000 bt447.2.1 bt447.2.2) else (none))) else (some x4)
def spec_A2Areas.f (k : Nat) (l0 : List Int) : Option (List Int) := (spec_l00From.f l0).bind fun bt437 => ((spec_l00Src_pick.f bt437.1 bt437.2.1 bt437.2.2 5).bind fun bt444 => (spec_A2Areas.l0 k (([] : List Int)) bt444.1 bt437.1 bt444.2.1 bt444.2.2))
theorem spec_A2Areas.mono_l : ∀ k, (∀ y0 y1 y2 y3 y4, LeO (spec_A2Areas.l0 k y0 y1 y2 y3 y4) (spec_A2Areas.l0 (k + 1) y0 y1 y2 y3 y4))
  | 0 => fun _ _ _ _ _ r h => by simp [spec_A2Areas.l0] at h
  | k + 1 => by
    have ih0 := spec_A2Areas.mono_l k
    · intro y0 y1 y2 y3 y4
      unfold spec_A2Areas.l0
      repeat' first
      | (with_reducible exact ih0 _ _ _ _ _)
      | (with_reducible exact LeO.refl _)
      | (with_reducible exact LeO.none _)
      | (with_reducible refine LeO.ite ?_ ?_)
      | (with_reducible refine LeO.bind ?_ (fun _ => ?_))
      | exact ih0 _ _ _ _ _
      | exact LeO.none _
      | refine LeO.ite ?_ ?_
      | refine LeO.bind ?_ (fun _ => ?_)
theorem spec_A2Areas.mono : ∀ a0 k, LeO (spec_A2Areas.f k a0) (spec_A2Areas.f (k + 1) a0) := by
  intro a0 k
  have ih0 := spec_A2Areas.mono_l k
  unfold spec_A2Areas.f
  repeat' first
      | (with_reducible exact ih0 _ _ _ _ _)
      | (with_reducible exact LeO.refl _)
      | (with_reducible exact LeO.none _)
      | (with_reducible refine LeO.ite ?_ ?_)
      | (with_reducible refine LeO.bind ?_ (fun _ => ?_))
      | exact ih0 _ _ _ _ _
      | exact LeO.none _
      | refine LeO.ite ?_ ?_
      | refine LeO.bind ?_ (fun _ => ?_)
set_option maxHeartbeats 8000000 in
set_option maxRecDepth 100000 in
theorem spec_A2Areas.calls (k : Nat) (A0 : Option Addr) (c0 : Nat) (l0 : List Int) (r : List Int) (w : World) (hr0 : Kd.C (Kd.int .u8) w A0 l0.length l0) (hc0 : l0.length ≤ c0) (h : spec_A2Areas.f k l0 = some r) :
    Calls Try.prog 41 #[.slice A0 l0.length c0] w fun e w' => ∃ v0_ : Value, e = .returned (v0_) ∧ Kd.R (Kd.int .i64) 2 w' w.heap.size (fun _ => True) v0_ r ∧ Below w.heap.size w w' := by
  have HR0 := Aside0.mk hr0
  have HC0 := Aside0.mk hc0
  clear hr0 hc0
  have HB := Aside0.mk (Below.refl w.heap.size w)
  have H : ((spec_l00From.f l0).bind fun bt437 => ((spec_l00Src_pick.f bt437.1 bt437.2.1 bt437.2.2 5).bind fun bt444 => (spec_A2Areas.l0 k (([] : List Int)) bt444.1 bt437.1 bt444.2.1 bt444.2.2))) = some r := h
  clear h
  replace H := Option.bind_eq_some_iff.mp H
  obtain ⟨⟨t437, t438, t439⟩, A20, H⟩ := H
  replace H : ((spec_l00Src_pick.f t437 t438 t439 5).bind fun bt444 => (spec_A2Areas.l0 k (([] : List Int)) bt444.1 t437 bt444.2.1 bt444.2.2)) = some r := H
  have A2 := Aside0.mk A20
  clear A20
  obtain ⟨y441, hy441⟩ : ∃ y_ : List Int, y_ = (([] : List Int)) := ⟨_, rfl⟩
  replace H : ((spec_l00Src_pick.f t437 t438 t439 5).bind fun bt444 => (spec_A2Areas.l0 k y441 bt444.1 t437 bt444.2.1 bt444.2.2)) = some r := by first | (rw [hy441]; with_reducible exact H) | (have H2_ := (Option.bind_some _ _).symm.trans H; rw [hy441]; with_reducible exact H2_) | (have H2_ := (Option.bind_some _ _).symm.trans H; with_reducible exact H2_) | with_reducible exact H | (rw [hy441]; exact H) | exact H
  have Ny441 := Aside0.mk hy441
  clear hy441
  replace H := Option.bind_eq_some_iff.mp H
  obtain ⟨⟨t444, t445, t446⟩, A30, H⟩ := H
  replace H : (spec_A2Areas.l0 k y441 t444 t437 t445 t446) = some r := H
  have A3 := Aside0.mk A30
  clear A30
  have H' := Aside0.mk H
  clear H
  go_enter Try.func41, Try.ntmps41
  go_wp2_with (first | ((with_reducible refine gate_callee (f := 54) rfl ?_); refine goesL_ (some 7) rfl rfl Try.func54 (by kernel_rfl) rfl #[.slice A0 l0.length c0] rfl (by (try simp only [List.map_toArray, List.map_cons, List.map_nil]); first | done | rfl | (simp only [List.length_drop, List.length_take]; rfl)) ?_; (with_reducible refine (spec_l00From.calls _ _ l0 t437 t438 t439 w _ ?side1 ?side2 ?side3 A2.out).mono ?_); (case side1 => repeat (first | (with_reducible first | exact HB.out | apply below_alloc | apply pw_below_drewN | apply below_drew1) | exact HB.out)); (case side2 => exact HR0.out); (case side3 => exact HC0.out); rintro e w4 ⟨g440, rfl, hi, hb, hb2⟩; refine ⟨_, rfl, ?_⟩; have n0_ := Aside0.mk (hb); have n1_ := Aside0.mk (hi); clear HB; have HB := n0_; have HI440 := n1_; clear n0_ n1_; (try clear hb); (try clear hb2); (try clear hk); (try clear hi)) | ((with_reducible refine gate_dst (N := 8) rfl ?_); refine Kd.R_lit (Kd.int .i64) _ 2 ?hg (N := 8) ?hd (xs := ([] : List Int)) (inner := []) (ok := fun _ => True) (okp := fun _ => True) ?hr ?hp (fun _ hk => hk) trivial (Below.refl _ _) (Nat.le_refl _) (by simp) ?_; (case hd => rfl); (case hg => rfl); (case hr => first | (go_simp; done) | (go_simp; rfl)); (case hp => exact (Reps.none _ _)); intro v442 w5 ho6 hb hg_ hnew_; clear hg_ hnew_; (first | rw [← Ny441.out] at ho6 | (simp only [Int.reduceToNat] at ho6; rw [← Ny441.out] at ho6)); have n0_ := Aside0.mk (Kd.R_lower ho6 (below_size (by repeat (first | (with_reducible first | exact HB.out | apply below_alloc | apply pw_below_drewN | apply below_drew1 | refine below_set ?_ (IsS98.ge HI440.out)) | exact HB.out)))); have n1_ := Aside0.mk (IsS98.below (by repeat (first | (with_reducible first | exact HI440.out | apply IsS98.alloc | apply IsS98.drewN | apply IsS98.drew | apply IsS98.set_1 | apply IsS98.set_2) | exact HI440.out)) hb); have n2_ := Aside0.mk (below_step (by repeat (first | (with_reducible first | exact HB.out | apply below_alloc | apply pw_below_drewN | apply below_drew1 | refine below_set ?_ (IsS98.ge HI440.out)) | exact HB.out)) hb); clear HI440; clear HB; have HO443 := n0_; have HI440 := n1_; have HB := n2_; clear n0_ n1_ n2_; clear hb ho6) | ((with_reducible refine gate_callee (f := 75) rfl ?_); refine goesL_ (some 10) rfl rfl Try.func75 (by kernel_rfl) rfl #[.pointer (some ⟨g440, 0, none⟩), .int .i64 5] rfl (by (try simp only [List.map_toArray, List.map_cons, List.map_nil]); first | done | rfl | (simp only [List.length_drop, List.length_take]; rfl)) ?_; (with_reducible refine (spec_l00Src_pick.calls g440 t437 t438 t439 5 t444 t445 t446 w _ ?side1 ?side2 A3.out).mono ?_); (case side1 => repeat (first | (with_reducible first | exact HI440.out | apply IsS98.alloc | apply IsS98.drewN | apply IsS98.drew | apply IsS98.set_1 | apply IsS98.set_2) | exact HI440.out)); (case side2 => repeat (first | (with_reducible first | exact HB.out | apply below_alloc | apply pw_below_drewN | apply below_drew1 | refine below_set ?_ (IsS98.ge HI440.out)) | exact HB.out)); rintro e w7 ⟨rfl, hi, hb, hk⟩; refine ⟨_, rfl, ?_⟩; have n0_ := Aside0.mk (Kd.R_mono (Kd.R_keep (IsS98.apart (show IsS98 w _ g440 t437 t438 t439 from by repeat (first | (with_reducible first | exact HI440.out | apply IsS98.alloc | apply IsS98.drewN | apply IsS98.drew | apply IsS98.set_1 | apply IsS98.set_2) | exact HI440.out)) HO443.out (by decide)) hk (fun _ h => h.2)) (fun _ h => h.1)); have n1_ := Aside0.mk (hb); have n2_ := Aside0.mk (hi); clear HO443; clear HB; clear HI440; have HO443 := n0_; have HB := n1_; have HI440 := n2_; clear n0_ n1_ n2_; (try clear hb); (try clear hb2); (try clear hk); (try clear hi)))
  go_loopg [4, 5] k (fun kq v4 v5 w' => ∃ (x4_1 : List Int) (x5_1 : Int) (x441001_1 : Int) (x441002_1 : Int), v5 = .int .i64 x5_1 ∧ Aside0 (spec_A2Areas.l0 kq x4_1 x5_1 t437 x441001_1 x441002_1 = some r) ∧ Aside0 (kq ≤ k) ∧ Aside0 (Kd.R (Kd.int .i64) 2 w' w.heap.size (fun _ => True) v4 x4_1) ∧ Aside0 (IsS98 w w' g440 t437 x441001_1 x441002_1) ∧ Aside0 (Below w.heap.size w w'))
  case atStart => exact ⟨(y441), (t444), (t445), (t446), (by first | rfl | (simp; done) | (simp [*]; done)), H', ⟨Nat.le_refl _⟩, ⟨by (with_reducible repeat (first | apply Kd.R_alloc | apply Kd.R_drewN | apply Kd.R_drew)); exact HO443.out⟩, ⟨by repeat (first | (with_reducible first | exact HI440.out | apply IsS98.alloc | apply IsS98.drewN | apply IsS98.drew | apply IsS98.set_1 | apply IsS98.set_2) | exact HI440.out)⟩, ⟨by repeat (first | (with_reducible first | exact HB.out | apply below_alloc | apply pw_below_drewN | apply below_drew1 | refine below_set ?_ (IsS98.ge HI440.out)) | exact HB.out)⟩⟩
  case round =>
    clear H'
    try clear p2
    try clear c4
    try clear c5
    try clear c7
    obtain ⟨x4_1, x5_1, x441001_1, x441002_1, rfl, HA, HK1, HO_4, HI440, HB⟩ := hrel
    cases gk with
    | zero => exact absurd HA.out (by simp [spec_A2Areas.l0])
    | succ k1 =>
      have H := HA.out
      clear HA
      simp only [spec_A2Areas.l0] at H
      by_cases c8 : x5_1 > 0
      · rw [if_pos c8] at H
        have c8b0 : decide (0 < x5_1) = true := decide_eq_true c8
        clear c8
        replace H := Option.bind_eq_some_iff.mp H
        obtain ⟨⟨t447, t448, t449⟩, A90, H⟩ := H
        replace H : (if x4_1.length < 17592186044416 then (spec_A2Areas.l0 k1 (x4_1 ++ [wrap64 (1 + t447)]) (wrap64 (x5_1 - 1)) t437 t448 t449) else (none)) = some r := H
        have A9 := Aside0.mk A90
        clear A90
        by_cases c10 : x4_1.length < 17592186044416
        · rw [if_pos c10] at H
          have LMc10 := Aside0.mk c10
          clear c10
          obtain ⟨y450, hy450⟩ : ∃ y_ : List Int, y_ = (x4_1 ++ [wrap64 (1 + t447)]) := ⟨_, rfl⟩
          replace H : (spec_A2Areas.l0 k1 y450 (wrap64 (x5_1 - 1)) t437 t448 t449) = some r := by first | (rw [hy450]; with_reducible exact H) | (have H2_ := (Option.bind_some _ _).symm.trans H; rw [hy450]; with_reducible exact H2_) | (have H2_ := (Option.bind_some _ _).symm.trans H; with_reducible exact H2_) | with_reducible exact H | (rw [hy450]; exact H) | exact H
          have Ny450 := Aside0.mk hy450
          clear hy450
          have H' := Aside0.mk H
          clear H
          go_wp2_with (first | ((with_reducible refine gate_callee (f := 75) rfl ?_); refine goesL_ (some 17) rfl rfl Try.func75 (by kernel_rfl) rfl #[.pointer (some ⟨g440, 0, none⟩), .int .i64 200] rfl (by (try simp only [List.map_toArray, List.map_cons, List.map_nil]); first | done | rfl | (simp only [List.length_drop, List.length_take]; rfl)) ?_; (with_reducible refine (spec_l00Src_pick.calls g440 t437 x441001_1 x441002_1 200 t447 t448 t449 w _ ?side1 ?side2 A9.out).mono ?_); (case side1 => repeat (first | (with_reducible first | exact HI440.out | apply IsS98.alloc | apply IsS98.drewN | apply IsS98.drew | apply IsS98.set_1 | apply IsS98.set_2) | exact HI440.out)); (case side2 => repeat (first | (with_reducible first | exact HB.out | apply below_alloc | apply pw_below_drewN | apply below_drew1 | refine below_set ?_ (IsS98.ge HI440.out)) | exact HB.out)); rintro e w11 ⟨rfl, hi, hb, hk⟩; refine ⟨_, rfl, ?_⟩; have n0_ := Aside0.mk (Kd.R_mono (Kd.R_keep (IsS98.apart (show IsS98 w _ g440 t437 x441001_1 x441002_1 from by repeat (first | (with_reducible first | exact HI440.out | apply IsS98.alloc | apply IsS98.drewN | apply IsS98.drew | apply IsS98.set_1 | apply IsS98.set_2) | exact HI440.out)) HO_4.out (by decide)) hk (fun _ h => h.2)) (fun _ h => h.1)); have n1_ := Aside0.mk (hb); have n2_ := Aside0.mk (hi); clear HO_4; clear HB; clear HI440; have HO_4 := n0_; have HB := n1_; have HI440 := n2_; clear n0_ n1_ n2_; (try clear hb); (try clear hb2); (try clear hk); (try clear hi)) | ((with_reducible refine gate_builtin (b := .append) (xs := #[.tmp 15, .tmp 19]) rfl ?_); at_builtin; refine Kd.R_append (Kd.int .i64) (w0 := w) w.heap.size rfl (.tmp 15) (.tmp 19) 27 2 (.int .i64 0) 8 rfl Try.underlying27 info2 rfl (by decide) (by omega) u4 x4_1 (wrap64 (1 + t447)) [.int .i64 (wrap64 (1 + t447))] (fun _ => True) (fun _ => False) rfl rfl ?aP (fun _ hk => hk.elim) ?aF ?aO ?aB ?aS ?aL ?_; (case aP => exact rfl); (case aB => exact (by repeat (first | (with_reducible first | exact HB.out | apply below_alloc | apply pw_below_drewN | apply below_drew1 | refine below_set ?_ (IsS98.ge HI440.out)) | exact HB.out))); (case aF => exact (fun _ _ => trivial)); (case aO => exact HO_4.out); (case aS => exact (below_size (by repeat (first | (with_reducible first | exact HB.out | apply below_alloc | apply pw_below_drewN | apply below_drew1 | refine below_set ?_ (IsS98.ge HI440.out)) | exact HB.out)))); (case aL => have := LMc10.out; omega); intro v451 w12 ho hb hg hat; rw [← Ny450.out] at ho; have n0_ := Aside0.mk (IsS98.grown (by repeat (first | (with_reducible first | exact HI440.out | apply IsS98.alloc | apply IsS98.drewN | apply IsS98.drew | apply IsS98.set_1 | apply IsS98.set_2) | exact HI440.out)) hg (IsS98.own_ne HI440.out HO_4.out (by decide))); have n1_ := Aside0.mk (hb); have n2_ := Aside0.mk (ho); clear HI440; clear HB; clear HO_4; have HI440 := n0_; have HB := n1_; have HO452 := n2_; clear n0_ n1_ n2_; clear ho hb hg hat))
          go_roundg k1
          case measure => have := HK1.out; omega
          case rel => exact ⟨(y450), (wrap64 (x5_1 - 1)), (t448), (t449), (by first | rfl | (simp; done) | (simp [*]; done)), H', ⟨by have := HK1.out; omega⟩, ⟨by (with_reducible repeat (first | apply Kd.R_alloc | apply Kd.R_drewN | apply Kd.R_drew)); exact HO452.out⟩, ⟨by repeat (first | (with_reducible first | exact HI440.out | apply IsS98.alloc | apply IsS98.drewN | apply IsS98.drew | apply IsS98.set_1 | apply IsS98.set_2) | exact HI440.out)⟩, ⟨by repeat (first | (with_reducible first | exact HB.out | apply below_alloc | apply pw_below_drewN | apply below_drew1 | refine below_set ?_ (IsS98.ge HI440.out)) | exact HB.out)⟩⟩
        · rw [if_neg c10] at H
          exact absurd H (by simp)
      · rw [if_neg c8] at H
        have c8b0 : decide (0 < x5_1) = false := decide_eq_false c8
        clear c8
        obtain rfl := Option.some.inj H
        go_wp2
        go_ret
        exact ⟨_, by first | rfl | (simp [errW_none, errW_some] <;> rfl) | (simp [*, errW_none, errW_some] <;> rfl), by (with_reducible repeat (first | apply Kd.R_alloc | apply Kd.R_drewN | apply Kd.R_drew)); exact HO_4.out, by repeat (first | (with_reducible first | exact HB.out | apply below_alloc | apply pw_below_drewN | apply below_drew1 | refine below_set ?_ (IsS98.ge HI440.out)) | exact HB.out)⟩

/-! ### impl_areasCode_1: function 99 -/
def impl_areasCode_1.f (a0 : Int) : Option (Bool) := (impl_isArea.f a0).bind fun t453 => (some (!t453))
set_option maxHeartbeats 8000000 in
set_option maxRecDepth 100000 in
theorem impl_areasCode_1.calls (a0 : Int) (r : Bool) (w : World) (h : impl_areasCode_1.f a0 = some r) :
    Calls Try.prog 99 #[.int .i64 a0] w fun e w' => e = .returned (.bool r) ∧ Drawn0 w w' := by
  have H : ((impl_isArea.f a0).bind fun t453 => (some (!t453))) = some r := h
  clear h
  replace H := Option.bind_eq_some_iff.mp H
  obtain ⟨t453, A20, H⟩ := H
  replace H : (some (!t453)) = some r := H
  have A2 := Aside0.mk A20
  clear A20
  obtain rfl := Option.some.inj H
  go_enter Try.func99, Try.ntmps99
  go_wp2_with (first | ((with_reducible refine gate_callee (f := 66) rfl ?_); refine goesL_ (some 4) rfl rfl Try.func66 (by kernel_rfl) rfl #[.int .i64 a0] rfl (by (try simp only [List.map_toArray, List.map_cons, List.map_nil]); first | done | rfl | (simp only [List.length_drop, List.length_take]; rfl)) ?_; (with_reducible refine (impl_isArea.calls a0 t453 _ A2.out).mono ?_); rintro e w' ⟨rfl, ⟨nd, rfl⟩⟩; refine ⟨_, rfl, ?_⟩))
  go_ret
  exact ⟨by first | rfl | (simp; done) | (simp [*]; done), by repeat (first | exact Drawn0.refl _ | apply Drawn0.step)⟩

/-! ### slices_IndexFunc_int64_int64: function 108 -/
set_option maxHeartbeats 8000000 in
set_option maxRecDepth 100000 in
theorem slices_IndexFunc_int64_int64.gen (g : Nat) (caps : Array Value) (q : Int → Option Bool) (w : World) (he : ∀ (args : Array Value) (W : World), (callFunc g args).run Try.prog W = .ok (.enter g args) W)
    (hq : ∀ (x : Int) (b : Bool) (W : World), Below w.heap.size w W → q x = some b → Calls Try.prog g (#[.int .i64 x] ++ caps) W fun e W' => e = .returned (.bool b) ∧ Below W.heap.size W W')
    (A0 : Option Addr) (c0 : Nat) (l0 : List (Int)) (r : Int) (hr0 : Kd.C (Kd.int .i64) w A0 l0.length l0) (_hc0 : l0.length ≤ c0) (h : D_idx q l0 0 = some r) :
    Calls Try.prog 108 #[.slice A0 l0.length c0, .func (.func g) #[] caps] w fun e w' => e = .returned (.int .i64 r) ∧ Below w.heap.size w w' := by
  have HR0 := Aside0.mk hr0
  have HQ := Aside0.mk hq
  have H := Aside0.mk h
  have hlen : l0.length ≤ 9223372036854775807 := hr0.2.1
  clear hr0 hq h
  go_enter Try.func108, Try.ntmps108
  go_wp2
  go_loopw [8] (fun i wr => ∃ k : Int, 0 ≤ k ∧ k ≤ l0.length ∧ i = .int .i64 k ∧ Aside0 (D_idx q (l0.drop k.toNat) k = some r) ∧ Aside0 (Below w.heap.size w wr)) (fun i _ => l0.length - (intOf i).toNat)
  case atStart => exact ⟨0, by omega, by omega, rfl, H, ⟨Below.refl _ _⟩⟩
  case round =>
    obtain ⟨k, hk0, hk, rfl, HK, HB⟩ := hrel
    by_cases hlt : k < (l0.length : Int)
    · have HK2 := HK.out
      have hkn : k.toNat < l0.length := by omega
      rw [D_idx_drop q l0 k.toNat hkn] at HK2
      replace HK2 := Option.bind_eq_some_iff.mp HK2
      obtain ⟨b, hb, HK3⟩ := HK2
      have e1 : l0[k.toNat]'hkn = rd l0 k := by unfold rd; rw [List.getD_eq_getElem?_getD, List.getElem?_eq_getElem hkn]; rfl
      rw [e1] at hb
      have e2 : k.toNat + 1 = (k + 1).toNat := by omega
      rw [e2] at HK3
      have HB3 := Aside0.mk hb
      have HK4 := Aside0.mk HK3
      clear hb HK3 HK e1 e2 hkn
      obtain ⟨ad, e0, hcell⟩ := Kd.at_int (Kd.C_below HR0.out HB.out) k hk0 hlt
      cases e0
      have p0 := eq_true hk0
      have p1 := eq_true hlt
      have H5 := Aside0.mk he
      go_wp2
      refine (HQ.out _ b _ HB.out HB3.out).mono ?_
      rintro e w1 ⟨rfl, hb1⟩
      have HB1 : Aside0 (Below w.heap.size w w1) := ⟨below_step HB.out hb1⟩
      clear hb1
      cases b
      · have HK5 : Aside0 (D_idx q (l0.drop (k + 1).toNat) (k + 1) = some r) := ⟨by have := HK4.out; simpa using this⟩
        clear HK4
        have hk1 : k + 1 ≤ (l0.length : Int) := by omega
        go_wp2
        go_roundw
        case measure => simp [intOf]; omega
        case rel => exact ⟨k + 1, by omega, by omega, rfl, HK5, HB1⟩
      · obtain rfl : k = r := by have := HK4.out; simpa using this
        clear HK4
        go_wp2
        go_ret
        exact ⟨rfl, HB1.out⟩
    · have hkl : k.toNat = l0.length := by omega
      have HK2 := HK.out
      rw [hkl, List.drop_length] at HK2
      obtain rfl : -1 = r := by simpa [D_idx] using HK2
      clear HK HK2 H hkl
      go_wp2
      go_ret
      exact ⟨rfl, HB.out⟩
def slices_IndexFunc_int64_int64.f (l0 : List (Int)) (a1 : Nat) : Option Int :=
if a1 = 99 then (D_idx impl_areasCode_1.f l0 0) else
  none
theorem slices_IndexFunc_int64_int64.calls (A0 : Option Addr) (c0 : Nat) (l0 : List (Int)) (a1 : Nat) (r : Int) (w : World) (hr0 : Kd.C (Kd.int .i64) w A0 l0.length l0) (hc0 : l0.length ≤ c0) (h : slices_IndexFunc_int64_int64.f l0 a1 = some r) :
    Calls Try.prog 108 #[.slice A0 l0.length c0, .func (.func a1) #[] #[]] w fun e w' => e = .returned (.int .i64 r) ∧ Below w.heap.size w w' := by
  unfold slices_IndexFunc_int64_int64.f at h
  by_cases e1 : a1 = 99
  · subst e1
    rw [if_pos rfl] at h
    exact slices_IndexFunc_int64_int64.gen 99 #[] _ w (fun args W => enters_ Try.func99 (by kernel_rfl) rfl args W) (fun x b W _ hb => (impl_areasCode_1.calls x b W hb).mono fun e W' hh => ⟨hh.1, by first | exact hh.2 | exact hh.2.below⟩) A0 c0 l0 r hr0 hc0 h
  rw [if_neg e1] at h
  cases h



/-! ### slices_ContainsFunc_int64_int64: function 98 -/
set_option maxHeartbeats 8000000 in
set_option maxRecDepth 100000 in
theorem slices_ContainsFunc_int64_int64.gen (v : Value) (w : World) (r : Int) (a : Value)
    (h : Calls Try.prog 108 #[a, v] w fun e w' => e = .returned (.int .i64 r) ∧ Below w.heap.size w w') :
    Calls Try.prog 98 #[a, v] w fun e w' => e = .returned (.bool (decide (0 ≤ r))) ∧ Below w.heap.size w w' := by
  have H := Aside0.mk h
  clear h
  go_enter Try.func98, Try.ntmps98
  go_wp2_with (first | ((with_reducible refine gate_callee (f := 108) rfl ?_); go_at_call 108; refine H.out.mono ?_; rintro e w1 ⟨rfl, hb⟩) | (go_at_call 108; refine H.out.mono ?_; rintro e w1 ⟨rfl, hb⟩))
  go_ret
  exact ⟨by first | rfl | (simp; done), by assumption⟩
def slices_ContainsFunc_int64_int64.f (l0 : List (Int)) (a1 : Nat) : Option Bool := (slices_IndexFunc_int64_int64.f l0 a1).bind fun r => some (decide (0 ≤ r))
theorem slices_ContainsFunc_int64_int64.calls (A0 : Option Addr) (c0 : Nat) (l0 : List (Int)) (a1 : Nat) (r : Bool) (w : World) (hr0 : Kd.C (Kd.int .i64) w A0 l0.length l0) (hc0 : l0.length ≤ c0) (h : slices_ContainsFunc_int64_int64.f l0 a1 = some r) :
    Calls Try.prog 98 #[.slice A0 l0.length c0, .func (.func a1) #[] #[]] w fun e w' => e = .returned (.bool r) ∧ Below w.heap.size w w' := by
  unfold slices_ContainsFunc_int64_int64.f at h
  obtain ⟨i, h1, h2⟩ := Option.bind_eq_some_iff.mp h
  obtain rfl := Option.some.inj h2
  exact slices_ContainsFunc_int64_int64.gen _ w i _ (slices_IndexFunc_int64_int64.calls A0 c0 l0 a1 i w hr0 hc0 h1)



/-! ### impl_areasCode: function 76 -/
def impl_areasCode.f (a0_0 : Int) (a0_1 : Int) (a0_2 : Int) (a0_3 : Int) (a1_0 : Int) (a1_1 : Int) (a1_2 : Int) (l2 : List Int) (a3 : Int) : Option (Int) := (impl_ValidBath.f a0_0 a0_1 a0_2 a0_3 a1_0 a1_1 a1_2).bind fun t456 => (if t456 = true then (if (l2.length : Int) > 60 then (some 3) else ((slices_ContainsFunc_int64_int64.f l2 99).bind fun t457 => (if t457 = true then (some 2) else ((impl_areThirds.f a3).bind fun t458 => (if t458 = true then (some 0) else (some 2)))))) else (some 1))
set_option maxHeartbeats 8000000 in
set_option maxRecDepth 100000 in
theorem impl_areasCode.calls (a0_0 : Int) (a0_1 : Int) (a0_2 : Int) (a0_3 : Int) (a1_0 : Int) (a1_1 : Int) (a1_2 : Int) (A2 : Option Addr) (c2 : Nat) (l2 : List Int) (a3 : Int) (r : Int) (w : World) (hr2 : Kd.C (Kd.int .i64) w A2 l2.length l2) (hc2 : l2.length ≤ c2) (h : impl_areasCode.f a0_0 a0_1 a0_2 a0_3 a1_0 a1_1 a1_2 l2 a3 = some r) :
    Calls Try.prog 76 #[.agg #[.int .i64 a0_0, .int .i64 a0_1, .int .i8 a0_2, .int .i8 a0_3], .agg #[.int .i64 a1_0, .int .i64 a1_1, .int .i64 a1_2], .slice A2 l2.length c2, .int .i64 a3] w fun e w' => e = .returned (.int .i64 r) ∧ Below w.heap.size w w' := by
  have hu43 := Try.underlying43
  have hu45 := Try.underlying45
  have HR2 := Aside0.mk hr2
  have HC2 := Aside0.mk hc2
  clear hr2 hc2
  have HB := Aside0.mk (Below.refl w.heap.size w)
  have H : ((impl_ValidBath.f a0_0 a0_1 a0_2 a0_3 a1_0 a1_1 a1_2).bind fun t456 => (if t456 = true then (if (l2.length : Int) > 60 then (some 3) else ((slices_ContainsFunc_int64_int64.f l2 99).bind fun t457 => (if t457 = true then (some 2) else ((impl_areThirds.f a3).bind fun t458 => (if t458 = true then (some 0) else (some 2)))))) else (some 1))) = some r := h
  clear h
  replace H := Option.bind_eq_some_iff.mp H
  obtain ⟨t456, A50, H⟩ := H
  replace H : (if t456 = true then (if (l2.length : Int) > 60 then (some 3) else ((slices_ContainsFunc_int64_int64.f l2 99).bind fun t457 => (if t457 = true then (some 2) else ((impl_areThirds.f a3).bind fun t458 => (if t458 = true then (some 0) else (some 2)))))) else (some 1)) = some r := H
  have A5 := Aside0.mk A50
  clear A50
  by_cases c6 : t456 = true
  · subst c6
    have H1 : (if (l2.length : Int) > 60 then (some 3) else ((slices_ContainsFunc_int64_int64.f l2 99).bind fun t457 => (if t457 = true then (some 2) else ((impl_areThirds.f a3).bind fun t458 => (if t458 = true then (some 0) else (some 2)))))) = some r := by rw [if_pos rfl] at H; exact H
    clear H
    have H := H1
    clear H1
    by_cases c7 : (l2.length : Int) > 60
    · rw [if_pos c7] at H
      have c7b0 : decide (60 < (l2.length : Int)) = true := decide_eq_true c7
      have c7b1 : decide (60 < l2.length) = true := decide_eq_true (by omega)
      clear c7
      obtain rfl := Option.some.inj H
      go_enter Try.func76, Try.ntmps76
      go_wp2_with (first | ((with_reducible refine gate_dst (N := 4) rfl ?_); refine box_event ?hg (N := 4) ?hd (cs := #[.int .i64 a0_0, .int .i64 a0_1, .int .i8 a0_2, .int .i8 a0_3]) (t := 43) ?hr ?_; (case hd => rfl); (case hg => rfl); (case hr => first | (go_simp; done) | (go_simp; rfl)); intro gb454 hg w8 hbox hb; have n0_ := Aside0.mk (below_step HB.out hb); have n1_ := Aside0.mk (hbox); have n2_ := Aside0.mk ((by rw [hg]; exact (below_size HB.out) : w.heap.size ≤ gb454)); have n3_ := Aside0.mk ((by rw [hg]; exact (below_size HB.out) : w.heap.size ≤ gb454)); clear HB; have HB := n0_; have BK454 := n1_; have GW454 := n2_; have GE454 := n3_; clear n0_ n1_ n2_ n3_; clear hb hbox hg) | ((with_reducible refine gate_dst (N := 5) rfl ?_); refine box_event ?hg (N := 5) ?hd (cs := #[.int .i64 a1_0, .int .i64 a1_1, .int .i64 a1_2]) (t := 45) ?hr ?_; (case hd => rfl); (case hg => rfl); (case hr => first | (go_simp; done) | (go_simp; rfl)); intro gb455 hg w9 hbox hb; have n0_ := Aside0.mk (blk_below BK454.out hb); have n1_ := Aside0.mk (below_step HB.out hb); have n2_ := Aside0.mk (hbox); have n3_ := Aside0.mk ((by rw [hg]; exact (below_size HB.out) : w.heap.size ≤ gb455)); have n4_ := Aside0.mk ((by rw [hg]; exact (below_size HB.out) : w.heap.size ≤ gb455)); have n5_ := Aside0.mk ((by rw [hg]; exact Nat.ne_of_lt (blk_lt BK454.out) : gb454 ≠ gb455)); have n6_ := Aside0.mk ((by rw [hg]; exact Nat.ne_of_gt (blk_lt BK454.out) : gb455 ≠ gb454)); clear BK454; clear HB; have BK454 := n0_; have HB := n1_; have BK455 := n2_; have GW455 := n3_; have GE455 := n4_; have NB454_455 := n5_; have NB455_454 := n6_; clear n0_ n1_ n2_ n3_ n4_ n5_ n6_; clear hb hbox hg; have hnb10 := NB454_455.out; have hnc10 := NB455_454.out; have hcz11_0 := blk_c BK454.out 0 rfl; have hcz11_1 := blk_c BK454.out 1 rfl; have hcz11_2 := blk_c BK454.out 2 rfl; have hcz11_3 := blk_c BK454.out 3 rfl; have hfz11_0 := blk_frozen BK454.out 0; have hfz11_1 := blk_frozen BK454.out 1; have hfz11_2 := blk_frozen BK454.out 2; have hfz11_3 := blk_frozen BK454.out 3; have hcz12_0 := blk_c BK455.out 0 rfl; have hcz12_1 := blk_c BK455.out 1 rfl; have hcz12_2 := blk_c BK455.out 2 rfl; have hfz12_0 := blk_frozen BK455.out 0; have hfz12_1 := blk_frozen BK455.out 1; have hfz12_2 := blk_frozen BK455.out 2) | ((with_reducible refine gate_callee (f := 24) rfl ?_); refine goesL_ (some 12) rfl rfl Try.func24 (by kernel_rfl) rfl #[.agg #[.int .i64 a0_0, .int .i64 a0_1, .int .i8 a0_2, .int .i8 a0_3], .agg #[.int .i64 a1_0, .int .i64 a1_1, .int .i64 a1_2]] rfl (by (try simp only [List.map_toArray, List.map_cons, List.map_nil]); first | done | rfl | (simp only [List.length_drop, List.length_take]; rfl)) ?_; (with_reducible refine (impl_ValidBath.calls a0_0 a0_1 a0_2 a0_3 a1_0 a1_1 a1_2 true _ A5.out).mono ?_); rintro e w13 ⟨rfl, hb⟩; refine ⟨_, rfl, ?_⟩; have n0_ := Aside0.mk (blk_below BK454.out hb); have n1_ := Aside0.mk (blk_below BK455.out hb); have n2_ := Aside0.mk (below_step HB.out hb); clear BK454; clear BK455; clear HB; have BK454 := n0_; have BK455 := n1_; have HB := n2_; clear n0_ n1_ n2_; (try clear hb); (try clear hb2); (try clear hk); (try clear hi)))
      go_ret
      exact ⟨by first | rfl | (simp [errW_none, errW_some] <;> rfl) | (simp [*, errW_none, errW_some] <;> rfl), by repeat (first | (with_reducible first | exact HB.out | apply below_alloc | apply pw_below_drewN | apply below_drew1 | refine below_set ?_ GE454.out | refine below_set ?_ GE455.out) | exact HB.out)⟩
    · rw [if_neg c7] at H
      have c7b0 : decide (60 < (l2.length : Int)) = false := decide_eq_false c7
      have c7b1 : decide (60 < l2.length) = false := decide_eq_false (by omega)
      clear c7
      replace H := Option.bind_eq_some_iff.mp H
      obtain ⟨t457, A140, H⟩ := H
      replace H : (if t457 = true then (some 2) else ((impl_areThirds.f a3).bind fun t458 => (if t458 = true then (some 0) else (some 2)))) = some r := H
      have A14 := Aside0.mk A140
      clear A140
      by_cases c15 : t457 = true
      · subst c15
        have H1 : (some 2) = some r := by rw [if_pos rfl] at H; exact H
        clear H
        have H := H1
        clear H1
        obtain rfl := Option.some.inj H
        go_enter Try.func76, Try.ntmps76
        go_wp2_with (first | ((with_reducible refine gate_dst (N := 4) rfl ?_); refine box_event ?hg (N := 4) ?hd (cs := #[.int .i64 a0_0, .int .i64 a0_1, .int .i8 a0_2, .int .i8 a0_3]) (t := 43) ?hr ?_; (case hd => rfl); (case hg => rfl); (case hr => first | (go_simp; done) | (go_simp; rfl)); intro gb454 hg w16 hbox hb; have n0_ := Aside0.mk (below_step HB.out hb); have n1_ := Aside0.mk (hbox); have n2_ := Aside0.mk ((by rw [hg]; exact (below_size HB.out) : w.heap.size ≤ gb454)); have n3_ := Aside0.mk ((by rw [hg]; exact (below_size HB.out) : w.heap.size ≤ gb454)); clear HB; have HB := n0_; have BK454 := n1_; have GW454 := n2_; have GE454 := n3_; clear n0_ n1_ n2_ n3_; clear hb hbox hg) | ((with_reducible refine gate_dst (N := 5) rfl ?_); refine box_event ?hg (N := 5) ?hd (cs := #[.int .i64 a1_0, .int .i64 a1_1, .int .i64 a1_2]) (t := 45) ?hr ?_; (case hd => rfl); (case hg => rfl); (case hr => first | (go_simp; done) | (go_simp; rfl)); intro gb455 hg w17 hbox hb; have n0_ := Aside0.mk (blk_below BK454.out hb); have n1_ := Aside0.mk (below_step HB.out hb); have n2_ := Aside0.mk (hbox); have n3_ := Aside0.mk ((by rw [hg]; exact (below_size HB.out) : w.heap.size ≤ gb455)); have n4_ := Aside0.mk ((by rw [hg]; exact (below_size HB.out) : w.heap.size ≤ gb455)); have n5_ := Aside0.mk ((by rw [hg]; exact Nat.ne_of_lt (blk_lt BK454.out) : gb454 ≠ gb455)); have n6_ := Aside0.mk ((by rw [hg]; exact Nat.ne_of_gt (blk_lt BK454.out) : gb455 ≠ gb454)); clear BK454; clear HB; have BK454 := n0_; have HB := n1_; have BK455 := n2_; have GW455 := n3_; have GE455 := n4_; have NB454_455 := n5_; have NB455_454 := n6_; clear n0_ n1_ n2_ n3_ n4_ n5_ n6_; clear hb hbox hg; have hnb18 := NB454_455.out; have hnc18 := NB455_454.out; have hcz19_0 := blk_c BK454.out 0 rfl; have hcz19_1 := blk_c BK454.out 1 rfl; have hcz19_2 := blk_c BK454.out 2 rfl; have hcz19_3 := blk_c BK454.out 3 rfl; have hfz19_0 := blk_frozen BK454.out 0; have hfz19_1 := blk_frozen BK454.out 1; have hfz19_2 := blk_frozen BK454.out 2; have hfz19_3 := blk_frozen BK454.out 3; have hcz20_0 := blk_c BK455.out 0 rfl; have hcz20_1 := blk_c BK455.out 1 rfl; have hcz20_2 := blk_c BK455.out 2 rfl; have hfz20_0 := blk_frozen BK455.out 0; have hfz20_1 := blk_frozen BK455.out 1; have hfz20_2 := blk_frozen BK455.out 2) | ((with_reducible refine gate_callee (f := 24) rfl ?_); refine goesL_ (some 12) rfl rfl Try.func24 (by kernel_rfl) rfl #[.agg #[.int .i64 a0_0, .int .i64 a0_1, .int .i8 a0_2, .int .i8 a0_3], .agg #[.int .i64 a1_0, .int .i64 a1_1, .int .i64 a1_2]] rfl (by (try simp only [List.map_toArray, List.map_cons, List.map_nil]); first | done | rfl | (simp only [List.length_drop, List.length_take]; rfl)) ?_; (with_reducible refine (impl_ValidBath.calls a0_0 a0_1 a0_2 a0_3 a1_0 a1_1 a1_2 true _ A5.out).mono ?_); rintro e w21 ⟨rfl, hb⟩; refine ⟨_, rfl, ?_⟩; have n0_ := Aside0.mk (blk_below BK454.out hb); have n1_ := Aside0.mk (blk_below BK455.out hb); have n2_ := Aside0.mk (below_step HB.out hb); clear BK454; clear BK455; clear HB; have BK454 := n0_; have BK455 := n1_; have HB := n2_; clear n0_ n1_ n2_; (try clear hb); (try clear hb2); (try clear hk); (try clear hi)) | ((with_reducible refine gate_callee (f := 98) rfl ?_); refine goesL_ (some 20) rfl rfl Try.func98 (by kernel_rfl) rfl #[.slice A2 l2.length c2, .func (.func 99) #[] #[]] rfl (by (try simp only [List.map_toArray, List.map_cons, List.map_nil]); first | done | rfl | (simp only [List.length_drop, List.length_take]; rfl)) ?_; (with_reducible refine (slices_ContainsFunc_int64_int64.calls _ _ l2 99 true _ ?side1 ?side2 A14.out).mono ?_); (case side1 => repeat (first | exact (Kd.C_below HR2.out HB.out) | (with_reducible refine Kd.C_alloc ?_ _) | (with_reducible refine Kd.C_drewN ?_ _) | (with_reducible refine Kd.C_drew ?_))); (case side2 => exact HC2.out); rintro e w22 ⟨rfl, hb⟩; refine ⟨_, rfl, ?_⟩; have n0_ := Aside0.mk (blk_below BK454.out hb); have n1_ := Aside0.mk (blk_below BK455.out hb); have n2_ := Aside0.mk (below_step HB.out hb); clear BK454; clear BK455; clear HB; have BK454 := n0_; have BK455 := n1_; have HB := n2_; clear n0_ n1_ n2_; (try clear hb); (try clear hb2); (try clear hk); (try clear hi)))
        go_ret
        exact ⟨by first | rfl | (simp [errW_none, errW_some] <;> rfl) | (simp [*, errW_none, errW_some] <;> rfl), by repeat (first | (with_reducible first | exact HB.out | apply below_alloc | apply pw_below_drewN | apply below_drew1 | refine below_set ?_ GE454.out | refine below_set ?_ GE455.out) | exact HB.out)⟩
      · replace c15 := Bool.eq_false_iff.mpr c15
        subst c15
        have H1 : ((impl_areThirds.f a3).bind fun t458 => (if t458 = true then (some 0) else (some 2))) = some r := by rw [if_neg (show ¬ (false = true) by decide)] at H; exact H
        clear H
        have H := H1
        clear H1
        replace H := Option.bind_eq_some_iff.mp H
        obtain ⟨t458, A230, H⟩ := H
        replace H : (if t458 = true then (some 0) else (some 2)) = some r := H
        have A23 := Aside0.mk A230
        clear A230
        by_cases c24 : t458 = true
        · subst c24
          have H1 : (some 0) = some r := by rw [if_pos rfl] at H; exact H
          clear H
          have H := H1
          clear H1
          obtain rfl := Option.some.inj H
          go_enter Try.func76, Try.ntmps76
          go_wp2_with (first | ((with_reducible refine gate_dst (N := 4) rfl ?_); refine box_event ?hg (N := 4) ?hd (cs := #[.int .i64 a0_0, .int .i64 a0_1, .int .i8 a0_2, .int .i8 a0_3]) (t := 43) ?hr ?_; (case hd => rfl); (case hg => rfl); (case hr => first | (go_simp; done) | (go_simp; rfl)); intro gb454 hg w25 hbox hb; have n0_ := Aside0.mk (below_step HB.out hb); have n1_ := Aside0.mk (hbox); have n2_ := Aside0.mk ((by rw [hg]; exact (below_size HB.out) : w.heap.size ≤ gb454)); have n3_ := Aside0.mk ((by rw [hg]; exact (below_size HB.out) : w.heap.size ≤ gb454)); clear HB; have HB := n0_; have BK454 := n1_; have GW454 := n2_; have GE454 := n3_; clear n0_ n1_ n2_ n3_; clear hb hbox hg) | ((with_reducible refine gate_dst (N := 5) rfl ?_); refine box_event ?hg (N := 5) ?hd (cs := #[.int .i64 a1_0, .int .i64 a1_1, .int .i64 a1_2]) (t := 45) ?hr ?_; (case hd => rfl); (case hg => rfl); (case hr => first | (go_simp; done) | (go_simp; rfl)); intro gb455 hg w26 hbox hb; have n0_ := Aside0.mk (blk_below BK454.out hb); have n1_ := Aside0.mk (below_step HB.out hb); have n2_ := Aside0.mk (hbox); have n3_ := Aside0.mk ((by rw [hg]; exact (below_size HB.out) : w.heap.size ≤ gb455)); have n4_ := Aside0.mk ((by rw [hg]; exact (below_size HB.out) : w.heap.size ≤ gb455)); have n5_ := Aside0.mk ((by rw [hg]; exact Nat.ne_of_lt (blk_lt BK454.out) : gb454 ≠ gb455)); have n6_ := Aside0.mk ((by rw [hg]; exact Nat.ne_of_gt (blk_lt BK454.out) : gb455 ≠ gb454)); clear BK454; clear HB; have BK454 := n0_; have HB := n1_; have BK455 := n2_; have GW455 := n3_; have GE455 := n4_; have NB454_455 := n5_; have NB455_454 := n6_; clear n0_ n1_ n2_ n3_ n4_ n5_ n6_; clear hb hbox hg; have hnb27 := NB454_455.out; have hnc27 := NB455_454.out; have hcz28_0 := blk_c BK454.out 0 rfl; have hcz28_1 := blk_c BK454.out 1 rfl; have hcz28_2 := blk_c BK454.out 2 rfl; have hcz28_3 := blk_c BK454.out 3 rfl; have hfz28_0 := blk_frozen BK454.out 0; have hfz28_1 := blk_frozen BK454.out 1; have hfz28_2 := blk_frozen BK454.out 2; have hfz28_3 := blk_frozen BK454.out 3; have hcz29_0 := blk_c BK455.out 0 rfl; have hcz29_1 := blk_c BK455.out 1 rfl; have hcz29_2 := blk_c BK455.out 2 rfl; have hfz29_0 := blk_frozen BK455.out 0; have hfz29_1 := blk_frozen BK455.out 1; have hfz29_2 := blk_frozen BK455.out 2) | ((with_reducible refine gate_callee (f := 24) rfl ?_); refine goesL_ (some 12) rfl rfl Try.func24 (by kernel_rfl) rfl #[.agg #[.int .i64 a0_0, .int .i64 a0_1, .int .i8 a0_2, .int .i8 a0_3], .agg #[.int .i64 a1_0, .int .i64 a1_1, .int .i64 a1_2]] rfl (by (try simp only [List.map_toArray, List.map_cons, List.map_nil]); first | done | rfl | (simp only [List.length_drop, List.length_take]; rfl)) ?_; (with_reducible refine (impl_ValidBath.calls a0_0 a0_1 a0_2 a0_3 a1_0 a1_1 a1_2 true _ A5.out).mono ?_); rintro e w30 ⟨rfl, hb⟩; refine ⟨_, rfl, ?_⟩; have n0_ := Aside0.mk (blk_below BK454.out hb); have n1_ := Aside0.mk (blk_below BK455.out hb); have n2_ := Aside0.mk (below_step HB.out hb); clear BK454; clear BK455; clear HB; have BK454 := n0_; have BK455 := n1_; have HB := n2_; clear n0_ n1_ n2_; (try clear hb); (try clear hb2); (try clear hk); (try clear hi)) | ((with_reducible refine gate_callee (f := 98) rfl ?_); refine goesL_ (some 20) rfl rfl Try.func98 (by kernel_rfl) rfl #[.slice A2 l2.length c2, .func (.func 99) #[] #[]] rfl (by (try simp only [List.map_toArray, List.map_cons, List.map_nil]); first | done | rfl | (simp only [List.length_drop, List.length_take]; rfl)) ?_; (with_reducible refine (slices_ContainsFunc_int64_int64.calls _ _ l2 99 false _ ?side1 ?side2 A14.out).mono ?_); (case side1 => repeat (first | exact (Kd.C_below HR2.out HB.out) | (with_reducible refine Kd.C_alloc ?_ _) | (with_reducible refine Kd.C_drewN ?_ _) | (with_reducible refine Kd.C_drew ?_))); (case side2 => exact HC2.out); rintro e w31 ⟨rfl, hb⟩; refine ⟨_, rfl, ?_⟩; have n0_ := Aside0.mk (blk_below BK454.out hb); have n1_ := Aside0.mk (blk_below BK455.out hb); have n2_ := Aside0.mk (below_step HB.out hb); clear BK454; clear BK455; clear HB; have BK454 := n0_; have BK455 := n1_; have HB := n2_; clear n0_ n1_ n2_; (try clear hb); (try clear hb2); (try clear hk); (try clear hi)) | (go_at_call 62; (with_reducible refine (impl_areThirds.calls a3 true _ A23.out).mono ?_); rintro e w' ⟨rfl, ⟨nd, rfl⟩⟩))
          go_ret
          exact ⟨by first | rfl | (simp [errW_none, errW_some] <;> rfl) | (simp [*, errW_none, errW_some] <;> rfl), by repeat (first | (with_reducible first | exact HB.out | apply below_alloc | apply pw_below_drewN | apply below_drew1 | refine below_set ?_ GE454.out | refine below_set ?_ GE455.out) | exact HB.out)⟩
        · replace c24 := Bool.eq_false_iff.mpr c24
          subst c24
          have H1 : (some 2) = some r := by rw [if_neg (show ¬ (false = true) by decide)] at H; exact H
          clear H
          have H := H1
          clear H1
          obtain rfl := Option.some.inj H
          go_enter Try.func76, Try.ntmps76
          go_wp2_with (first | ((with_reducible refine gate_dst (N := 4) rfl ?_); refine box_event ?hg (N := 4) ?hd (cs := #[.int .i64 a0_0, .int .i64 a0_1, .int .i8 a0_2, .int .i8 a0_3]) (t := 43) ?hr ?_; (case hd => rfl); (case hg => rfl); (case hr => first | (go_simp; done) | (go_simp; rfl)); intro gb454 hg w32 hbox hb; have n0_ := Aside0.mk (below_step HB.out hb); have n1_ := Aside0.mk (hbox); have n2_ := Aside0.mk ((by rw [hg]; exact (below_size HB.out) : w.heap.size ≤ gb454)); have n3_ := Aside0.mk ((by rw [hg]; exact (below_size HB.out) : w.heap.size ≤ gb454)); clear HB; have HB := n0_; have BK454 := n1_; have GW454 := n2_; have GE454 := n3_; clear n0_ n1_ n2_ n3_; clear hb hbox hg) | ((with_reducible refine gate_dst (N := 5) rfl ?_); refine box_event ?hg (N := 5) ?hd (cs := #[.int .i64 a1_0, .int .i64 a1_1, .int .i64 a1_2]) (t := 45) ?hr ?_; (case hd => rfl); (case hg => rfl); (case hr => first | (go_simp; done) | (go_simp; rfl)); intro gb455 hg w33 hbox hb; have n0_ := Aside0.mk (blk_below BK454.out hb); have n1_ := Aside0.mk (below_step HB.out hb); have n2_ := Aside0.mk (hbox); have n3_ := Aside0.mk ((by rw [hg]; exact (below_size HB.out) : w.heap.size ≤ gb455)); have n4_ := Aside0.mk ((by rw [hg]; exact (below_size HB.out) : w.heap.size ≤ gb455)); have n5_ := Aside0.mk ((by rw [hg]; exact Nat.ne_of_lt (blk_lt BK454.out) : gb454 ≠ gb455)); have n6_ := Aside0.mk ((by rw [hg]; exact Nat.ne_of_gt (blk_lt BK454.out) : gb455 ≠ gb454)); clear BK454; clear HB; have BK454 := n0_; have HB := n1_; have BK455 := n2_; have GW455 := n3_; have GE455 := n4_; have NB454_455 := n5_; have NB455_454 := n6_; clear n0_ n1_ n2_ n3_ n4_ n5_ n6_; clear hb hbox hg; have hnb34 := NB454_455.out; have hnc34 := NB455_454.out; have hcz35_0 := blk_c BK454.out 0 rfl; have hcz35_1 := blk_c BK454.out 1 rfl; have hcz35_2 := blk_c BK454.out 2 rfl; have hcz35_3 := blk_c BK454.out 3 rfl; have hfz35_0 := blk_frozen BK454.out 0; have hfz35_1 := blk_frozen BK454.out 1; have hfz35_2 := blk_frozen BK454.out 2; have hfz35_3 := blk_frozen BK454.out 3; have hcz36_0 := blk_c BK455.out 0 rfl; have hcz36_1 := blk_c BK455.out 1 rfl; have hcz36_2 := blk_c BK455.out 2 rfl; have hfz36_0 := blk_frozen BK455.out 0; have hfz36_1 := blk_frozen BK455.out 1; have hfz36_2 := blk_frozen BK455.out 2) | ((with_reducible refine gate_callee (f := 24) rfl ?_); refine goesL_ (some 12) rfl rfl Try.func24 (by kernel_rfl) rfl #[.agg #[.int .i64 a0_0, .int .i64 a0_1, .int .i8 a0_2, .int .i8 a0_3], .agg #[.int .i64 a1_0, .int .i64 a1_1, .int .i64 a1_2]] rfl (by (try simp only [List.map_toArray, List.map_cons, List.map_nil]); first | done | rfl | (simp only [List.length_drop, List.length_take]; rfl)) ?_; (with_reducible refine (impl_ValidBath.calls a0_0 a0_1 a0_2 a0_3 a1_0 a1_1 a1_2 true _ A5.out).mono ?_); rintro e w37 ⟨rfl, hb⟩; refine ⟨_, rfl, ?_⟩; have n0_ := Aside0.mk (blk_below BK454.out hb); have n1_ := Aside0.mk (blk_below BK455.out hb); have n2_ := Aside0.mk (below_step HB.out hb); clear BK454; clear BK455; clear HB; have BK454 := n0_; have BK455 := n1_; have HB := n2_; clear n0_ n1_ n2_; (try clear hb); (try clear hb2); (try clear hk); (try clear hi)) | ((with_reducible refine gate_callee (f := 98) rfl ?_); refine goesL_ (some 20) rfl rfl Try.func98 (by kernel_rfl) rfl #[.slice A2 l2.length c2, .func (.func 99) #[] #[]] rfl (by (try simp only [List.map_toArray, List.map_cons, List.map_nil]); first | done | rfl | (simp only [List.length_drop, List.length_take]; rfl)) ?_; (with_reducible refine (slices_ContainsFunc_int64_int64.calls _ _ l2 99 false _ ?side1 ?side2 A14.out).mono ?_); (case side1 => repeat (first | exact (Kd.C_below HR2.out HB.out) | (with_reducible refine Kd.C_alloc ?_ _) | (with_reducible refine Kd.C_drewN ?_ _) | (with_reducible refine Kd.C_drew ?_))); (case side2 => exact HC2.out); rintro e w38 ⟨rfl, hb⟩; refine ⟨_, rfl, ?_⟩; have n0_ := Aside0.mk (blk_below BK454.out hb); have n1_ := Aside0.mk (blk_below BK455.out hb); have n2_ := Aside0.mk (below_step HB.out hb); clear BK454; clear BK455; clear HB; have BK454 := n0_; have BK455 := n1_; have HB := n2_; clear n0_ n1_ n2_; (try clear hb); (try clear hb2); (try clear hk); (try clear hi)) | (go_at_call 62; (with_reducible refine (impl_areThirds.calls a3 false _ A23.out).mono ?_); rintro e w' ⟨rfl, ⟨nd, rfl⟩⟩))
          go_ret
          exact ⟨by first | rfl | (simp [errW_none, errW_some] <;> rfl) | (simp [*, errW_none, errW_some] <;> rfl), by repeat (first | (with_reducible first | exact HB.out | apply below_alloc | apply pw_below_drewN | apply below_drew1 | refine below_set ?_ GE454.out | refine below_set ?_ GE455.out) | exact HB.out)⟩
  · replace c6 := Bool.eq_false_iff.mpr c6
    subst c6
    have H1 : (some 1) = some r := by rw [if_neg (show ¬ (false = true) by decide)] at H; exact H
    clear H
    have H := H1
    clear H1
    obtain rfl := Option.some.inj H
    go_enter Try.func76, Try.ntmps76
    go_wp2_with (first | ((with_reducible refine gate_dst (N := 4) rfl ?_); refine box_event ?hg (N := 4) ?hd (cs := #[.int .i64 a0_0, .int .i64 a0_1, .int .i8 a0_2, .int .i8 a0_3]) (t := 43) ?hr ?_; (case hd => rfl); (case hg => rfl); (case hr => first | (go_simp; done) | (go_simp; rfl)); intro gb454 hg w39 hbox hb; have n0_ := Aside0.mk (below_step HB.out hb); have n1_ := Aside0.mk (hbox); have n2_ := Aside0.mk ((by rw [hg]; exact (below_size HB.out) : w.heap.size ≤ gb454)); have n3_ := Aside0.mk ((by rw [hg]; exact (below_size HB.out) : w.heap.size ≤ gb454)); clear HB; have HB := n0_; have BK454 := n1_; have GW454 := n2_; have GE454 := n3_; clear n0_ n1_ n2_ n3_; clear hb hbox hg) | ((with_reducible refine gate_dst (N := 5) rfl ?_); refine box_event ?hg (N := 5) ?hd (cs := #[.int .i64 a1_0, .int .i64 a1_1, .int .i64 a1_2]) (t := 45) ?hr ?_; (case hd => rfl); (case hg => rfl); (case hr => first | (go_simp; done) | (go_simp; rfl)); intro gb455 hg w40 hbox hb; have n0_ := Aside0.mk (blk_below BK454.out hb); have n1_ := Aside0.mk (below_step HB.out hb); have n2_ := Aside0.mk (hbox); have n3_ := Aside0.mk ((by rw [hg]; exact (below_size HB.out) : w.heap.size ≤ gb455)); have n4_ := Aside0.mk ((by rw [hg]; exact (below_size HB.out) : w.heap.size ≤ gb455)); have n5_ := Aside0.mk ((by rw [hg]; exact Nat.ne_of_lt (blk_lt BK454.out) : gb454 ≠ gb455)); have n6_ := Aside0.mk ((by rw [hg]; exact Nat.ne_of_gt (blk_lt BK454.out) : gb455 ≠ gb454)); clear BK454; clear HB; have BK454 := n0_; have HB := n1_; have BK455 := n2_; have GW455 := n3_; have GE455 := n4_; have NB454_455 := n5_; have NB455_454 := n6_; clear n0_ n1_ n2_ n3_ n4_ n5_ n6_; clear hb hbox hg; have hnb41 := NB454_455.out; have hnc41 := NB455_454.out; have hcz42_0 := blk_c BK454.out 0 rfl; have hcz42_1 := blk_c BK454.out 1 rfl; have hcz42_2 := blk_c BK454.out 2 rfl; have hcz42_3 := blk_c BK454.out 3 rfl; have hfz42_0 := blk_frozen BK454.out 0; have hfz42_1 := blk_frozen BK454.out 1; have hfz42_2 := blk_frozen BK454.out 2; have hfz42_3 := blk_frozen BK454.out 3; have hcz43_0 := blk_c BK455.out 0 rfl; have hcz43_1 := blk_c BK455.out 1 rfl; have hcz43_2 := blk_c BK455.out 2 rfl; have hfz43_0 := blk_frozen BK455.out 0; have hfz43_1 := blk_frozen BK455.out 1; have hfz43_2 := blk_frozen BK455.out 2) | ((with_reducible refine gate_callee (f := 24) rfl ?_); refine goesL_ (some 12) rfl rfl Try.func24 (by kernel_rfl) rfl #[.agg #[.int .i64 a0_0, .int .i64 a0_1, .int .i8 a0_2, .int .i8 a0_3], .agg #[.int .i64 a1_0, .int .i64 a1_1, .int .i64 a1_2]] rfl (by (try simp only [List.map_toArray, List.map_cons, List.map_nil]); first | done | rfl | (simp only [List.length_drop, List.length_take]; rfl)) ?_; (with_reducible refine (impl_ValidBath.calls a0_0 a0_1 a0_2 a0_3 a1_0 a1_1 a1_2 false _ A5.out).mono ?_); rintro e w44 ⟨rfl, hb⟩; refine ⟨_, rfl, ?_⟩; have n0_ := Aside0.mk (blk_below BK454.out hb); have n1_ := Aside0.mk (blk_below BK455.out hb); have n2_ := Aside0.mk (below_step HB.out hb); clear BK454; clear BK455; clear HB; have BK454 := n0_; have BK455 := n1_; have HB := n2_; clear n0_ n1_ n2_; (try clear hb); (try clear hb2); (try clear hk); (try clear hi)))
    go_ret
    exact ⟨by first | rfl | (simp [errW_none, errW_some] <;> rfl) | (simp [*, errW_none, errW_some] <;> rfl), by repeat (first | (with_reducible first | exact HB.out | apply below_alloc | apply pw_below_drewN | apply below_drew1 | refine below_set ?_ GE454.out | refine below_set ?_ GE455.out) | exact HB.out)⟩

/-! ### impl_LeastReplenished: function 42 -/
theorem lr_below_row {w W : World} {g : Nat} (h : Below w.heap.size w W) (hg : w.heap.size ≤ g) (cs : Array Value) : Below w.heap.size w (W.setRow g cs) :=
  h.trans ⟨rfl, rfl, rfl, by simp [World.setRow], fun k hk => setRow_other W g k cs (by omega)⟩
set_option maxHeartbeats 8000000 in
set_option maxRecDepth 100000 in
theorem impl_LeastReplenished.clo (db ab sb : Nat) (p k c d area s v u g : Int) (r : Bool) (W : World) (hd : W.heap[db]? = some (.cells #[.int .i64 p, .int .i64 k, .int .i8 c, .int .i8 d] 43 (0, 0))) (ha : W.heap[ab]? = some (.cells #[.int .i64 area] 2 (0, 0))) (hs : W.heap[sb]? = some (.cells #[.int .i64 s] 2 (0, 0)))
    (h : impl_Bath_canDevelop.f v u g p k c d area s = some r) :
    Calls Try.prog 77 (#[.agg #[.int .i64 v, .int .i64 u, .int .i64 g]] ++ #[.pointer (some ⟨db, 0, none⟩), .pointer (some ⟨ab, 0, none⟩), .pointer (some ⟨sb, 0, none⟩)]) W fun e W' => e = .returned (.bool r) ∧ Below W.heap.size W W' := by
  have HH := Aside0.mk h
  clear h
  have HD := Aside0.mk hd
  have HA := Aside0.mk ha
  have HS := Aside0.mk hs
  clear hd ha hs
  go_enter Try.func77, Try.ntmps77
  go_wp2_with (first | ((with_reducible refine gate_dst (N := 4) rfl ?_); refine box_event ?hg (N := 4) ?hd (cs := #[.int .i64 v, .int .i64 u, .int .i64 g]) (t := 45) ?hr ?_; (case hd => rfl); (case hg => rfl); (case hr => first | (go_simp; done) | (go_simp; rfl)); intro gb hg W0 hbox hb; have HB := Aside0.mk hb; clear hg; have c0 : W0.cell? ⟨gb, 0, none⟩ = some (.int .i64 v) := (blk_cell hbox 0).trans rfl; have c1 : W0.cell? ⟨gb, 1, none⟩ = some (.int .i64 u) := (blk_cell hbox 1).trans rfl; have c2 : W0.cell? ⟨gb, 2, none⟩ = some (.int .i64 g) := (blk_cell hbox 2).trans rfl; have d0 : W0.cell? ⟨db, 0, none⟩ = some (.int .i64 p) := (blk_cell (blk_below HD.out hb) 0).trans rfl; have d1 : W0.cell? ⟨db, 1, none⟩ = some (.int .i64 k) := (blk_cell (blk_below HD.out hb) 1).trans rfl; have d2 : W0.cell? ⟨db, 2, none⟩ = some (.int .i8 c) := (blk_cell (blk_below HD.out hb) 2).trans rfl; have d3 : W0.cell? ⟨db, 3, none⟩ = some (.int .i8 d) := (blk_cell (blk_below HD.out hb) 3).trans rfl; have a0 : W0.cell? ⟨ab, 0, none⟩ = some (.int .i64 area) := (blk_cell (blk_below HA.out hb) 0).trans rfl; have s0 : W0.cell? ⟨sb, 0, none⟩ = some (.int .i64 s) := (blk_cell (blk_below HS.out hb) 0).trans rfl; clear hb hbox))
  refine (impl_Bath_canDevelop.calls v u g p k c d area s r _ HH.out).mono ?_
  rintro e w1 ⟨rfl, hb⟩
  have HBB := Aside0.mk (below_step HB.out hb)
  clear hb c0 c1 c2 d0 d1 d2 d3 a0 s0
  go_wp2_with fail
  go_ret
  exact ⟨rfl, HBB.out⟩
def impl_LeastReplenished.l0 (p k c d : Int) (l : List Int) (s : Int) : Nat → List Int → Int → Int → Int → Int → Int → Option (List Int × Int × Int)
  | 0, _, _, _, _, _, _ => none
  | n + 1, o, sm, i, v, u, g => if i < (l.length : Int) then
      ((impl_Bath_leastFor.lf (fun x y z => impl_Bath_canDevelop.f x y z p k c d (rd l i) s) v u g (v + 2).toNat 0).bind fun m => if m > v then some ([], 0, 6) else
        ((impl_Bath_replenished.f v u g m).bind fun b => if o.length < 17592186044416 then impl_LeastReplenished.l0 p k c d l s n (o ++ [m]) (wrap64 (sm + m)) (wrap64 (i + 1)) b.1 (wrap64 (b.2.1 + rd l i)) b.2.2 else none))
    else some (o, sm, 0)
def impl_LeastReplenished.f (p k c d v u g : Int) (l : List Int) (s : Int) : Option (List Int × Int × Int) :=
  (impl_areasCode.f p k c d v u g l s).bind fun t => if t = 0 then impl_LeastReplenished.l0 p k c d l s (l.length + 1) [] 0 0 v u g else some ([], 0, t)
set_option maxHeartbeats 8000000 in
set_option maxRecDepth 100000 in
theorem impl_LeastReplenished.calls (p k c d v u g : Int) (A2 : Option Addr) (c2 : Nat) (l : List Int) (s : Int) (r1 : List Int) (r2 r3 : Int) (w : World) (hr2 : Kd.C (Kd.int .i64) w A2 l.length l) (hc2 : l.length ≤ c2)
    (h : impl_LeastReplenished.f p k c d v u g l s = some (r1, r2, r3)) :
    Calls Try.prog 42 #[.agg #[.int .i64 p, .int .i64 k, .int .i8 c, .int .i8 d], .agg #[.int .i64 v, .int .i64 u, .int .i64 g], .slice A2 l.length c2, .int .i64 s] w fun e w' => ∃ v0_ : Value, e = .returned (.tuple #[v0_, .int .i64 r2, .int .i64 r3]) ∧ Kd.R (Kd.int .i64) 2 w' w.heap.size (fun _ => True) v0_ r1 ∧ Below w.heap.size w w' := by
  unfold impl_LeastReplenished.f at h
  obtain ⟨n, hn⟩ : ∃ n, n = l.length + 1 := ⟨_, rfl⟩
  rw [← hn] at h
  clear hn
  obtain ⟨t, ht, h⟩ := Option.bind_eq_some_iff.mp h
  have HT := Aside0.mk ht
  have H := Aside0.mk h
  have HR := Aside0.mk hr2
  have HC := Aside0.mk hc2
  clear ht h hr2 hc2
  go_enter Try.func42, Try.ntmps42
  go_wp2_with fail
  have hA := alloc3_0 w (.cells #[.int .i64 p, .int .i64 k, .int .i8 c, .int .i8 d] 43) (.cells #[.int .i64 v, .int .i64 u, .int .i64 g] 45) (.cells #[.int .i64 s] 2)
  have hB := alloc3_1 w (.cells #[.int .i64 p, .int .i64 k, .int .i8 c, .int .i8 d] 43) (.cells #[.int .i64 v, .int .i64 u, .int .i64 g] 45) (.cells #[.int .i64 s] 2)
  have hC := alloc3_2 w (.cells #[.int .i64 p, .int .i64 k, .int .i8 c, .int .i8 d] 43) (.cells #[.int .i64 v, .int .i64 u, .int .i64 g] 45) (.cells #[.int .i64 s] 2)
  have hb0 := alloc3_below w (.cells #[.int .i64 p, .int .i64 k, .int .i8 c, .int .i8 d] 43) (.cells #[.int .i64 v, .int .i64 u, .int .i64 g] 45) (.cells #[.int .i64 s] 2)
  refine (impl_areasCode.calls p k c d v u g A2 c2 l s t _ (Kd.C_below HR.out hb0) HC.out HT.out).mono ?_
  rintro e w1 ⟨rfl, hb⟩
  have DA := Aside0.mk (blk_below hA hb)
  have DB := Aside0.mk (blk_below hB hb)
  have DC := Aside0.mk (blk_below hC hb)
  have HB1 := Aside0.mk (below_step hb0 hb)
  have HS1 := Aside0.mk (blk_lt DC.out)
  clear hA hB hC hb0 hb
  by_cases ht0 : t = 0
  · have H1 : impl_LeastReplenished.l0 p k c d l s n [] 0 0 v u g = some (r1, r2, r3) := by have := H.out; rwa [if_pos ht0] at this
    have H2 := Aside0.mk H1
    have ht1 : (t != 0) = false := by simp [ht0]
    clear H1 H ht0
    go_wp2_with (first | ((with_reducible refine gate_dst (N := 25) rfl ?_); refine Kd.R_lit (Kd.int .i64) _ 2 ?hg (N := 25) ?hd (xs := ([] : List Int)) (inner := []) (ok := fun k_ => k_ ≠ w.heap.size + 2) (okp := fun k_ => k_ ≠ w.heap.size + 2) ?hr ?hp (fun _ hk => hk) (by have := HS1.out; omega) (Below.refl _ _) (Nat.le_refl _) (by simp) ?_; (case hd => rfl); (case hg => rfl); (case hr => first | (go_simp; done) | (go_simp; rfl)); (case hp => exact (Reps.none _ _)); intro v25 w2 ho7 hb hg_ hnew_; clear hg_ hnew_; have HO2 := Aside0.mk (Kd.R_lower ho7 (below_size HB1.out)); have HB2 := Aside0.mk (below_step HB1.out hb); have DA2 := Aside0.mk (blk_below DA.out hb); have DB2 := Aside0.mk (blk_below DB.out hb); have DC2 := Aside0.mk (blk_below DC.out hb); clear hb ho7))
    go_loopg [12, 13, 28] n (fun kq v12 v13 v28 w' => ∃ (o : List Int) (sm i v u g : Int) (W : World), W = w' ∧ v13 = .int .i64 sm ∧ v28 = .int .i64 i ∧ Aside0 (impl_LeastReplenished.l0 p k c d l s kq o sm i v u g = some (r1, r2, r3)) ∧ Aside0 (0 ≤ i) ∧ Aside0 (kq ≤ n) ∧ Aside0 (Kd.R (Kd.int .i64) 2 W w.heap.size (fun k_ => k_ ≠ w.heap.size + 2) v12 o) ∧
      Aside0 (W.heap[w.heap.size]? = some (.cells #[.int .i64 p, .int .i64 k, .int .i8 c, .int .i8 d] 43 (0, 0))) ∧ Aside0 (W.heap[w.heap.size + 1]? = some (.cells #[.int .i64 v, .int .i64 u, .int .i64 g] 45 (0, 0))) ∧ Aside0 (W.heap[w.heap.size + 2]? = some (.cells #[.int .i64 s] 2 (0, 0))) ∧ Aside0 (Below w.heap.size w W))
    case atStart => exact ⟨[], 0, 0, v, u, g, _, rfl, rfl, rfl, H2, ⟨by omega⟩, ⟨Nat.le_refl _⟩, HO2, DA2, DB2, DC2, HB2⟩
    case round =>
      clear H2 HO2 DA2 DB2 DC2 HB2 DA DB DC HB1
      obtain ⟨o, sm, i, v, u, g, W, rfl, rfl, rfl, HA, HI, HK, HO, DA, DB, DC, HB⟩ := hrel
      cases gk with
      | zero => exact absurd HA.out (by simp [impl_LeastReplenished.l0])
      | succ k1 =>
        have H := HA.out
        clear HA
        simp only [impl_LeastReplenished.l0] at H
        by_cases hi : i < (l.length : Int)
        · rw [if_pos hi] at H
          obtain ⟨m, h1, H⟩ := Option.bind_eq_some_iff.mp H
          have H1 := Aside0.mk h1
          have H2 := Aside0.mk H
          clear h1 H
          have h0 := HI.out
          obtain ⟨ad, hA2, hcell⟩ := Kd.at_int (Kd.C_below HR.out HB.out) i h0 (by exact_mod_cast hi)
          subst hA2
          have s0 := blk_lt DA.out
          have s1 := blk_lt DB.out
          have s2 := blk_lt DC.out
          obtain ⟨a, ha⟩ : ∃ a, a = rd l i := ⟨_, rfl⟩
          rw [← ha] at hcell
          have HAR := Aside0.mk ha
          clear ha
          have hb := below_alloc (Below.refl W.heap.size W) (.cells #[.int .i64 a] 2)
          have HX := Aside0.mk (show (W.alloc (.cells #[.int .i64 a] 2)).heap[W.heap.size]? = some (.cells #[.int .i64 a] 2 (0, 0)) from heap_alloc_new _ _)
          have DA2 := Aside0.mk (blk_below DA.out hb)
          have DB2 := Aside0.mk (blk_below DB.out hb)
          have DC2 := Aside0.mk (blk_below DC.out hb)
          have HO2 := Aside0.mk (Kd.R_below HO.out hb)
          have HB2 := Aside0.mk (below_step HB.out hb)
          have b0 : (W.alloc (.cells #[.int .i64 a] 2)).cell? ⟨w.heap.size + 1, 0, none⟩ = some (.int .i64 v) := (blk_cell DB2.out 0).trans rfl
          have b1 : (W.alloc (.cells #[.int .i64 a] 2)).cell? ⟨w.heap.size + 1, 1, none⟩ = some (.int .i64 u) := (blk_cell DB2.out 1).trans rfl
          have b2 : (W.alloc (.cells #[.int .i64 a] 2)).cell? ⟨w.heap.size + 1, 2, none⟩ = some (.int .i64 g) := (blk_cell DB2.out 2).trans rfl
          clear hb s0 s1 s2
          go_wp2_with fail
          have H1' : impl_Bath_leastFor.lf (fun x y z => impl_Bath_canDevelop.f x y z p k c d a s) v u g (v + 2).toNat 0 = some m := by rw [HAR.out]; exact H1.out
          refine (impl_Bath_leastFor.gen 77 #[.pointer (some ⟨w.heap.size, 0, none⟩), .pointer (some ⟨W.heap.size, 0, none⟩), .pointer (some ⟨w.heap.size + 1 + 1, 0, none⟩)] _ _ (fun args W => enters_ Try.func77 (by kernel_rfl) rfl args W)
            (fun x y z b W' hW hq => impl_LeastReplenished.clo w.heap.size W.heap.size (w.heap.size + 2) p k c d a s x y z b W' (blk_below DA2.out hW) (blk_below HX.out hW) (blk_below DC2.out hW) hq) v u g m _ H1').mono ?_
          rintro e w3 ⟨rfl, hb⟩
          have DA3 := Aside0.mk (blk_below DA2.out hb)
          have DB3 := Aside0.mk (blk_below DB2.out hb)
          have DC3 := Aside0.mk (blk_below DC2.out hb)
          have HX3 := Aside0.mk (blk_below HX.out hb)
          have HO3 := Aside0.mk (Kd.R_below HO2.out hb)
          have HB3 := Aside0.mk (below_step HB2.out hb)
          have HG3 := Aside0.mk (show w.heap.size + 2 < W.heap.size from blk_lt DC.out)
          clear hb H1' b0 b1 b2 DA2 DB2 DC2 HX HO2 HB2 hcell HO DA DB DC HB
          have H3 := H2.out
          clear H2
          have b0 : w3.cell? ⟨w.heap.size + 1, 0, none⟩ = some (.int .i64 v) := (blk_cell DB3.out 0).trans rfl
          by_cases hm : m > v
          · rw [if_pos hm] at H3
            simp only [Option.some.injEq, Prod.mk.injEq] at H3
            obtain ⟨rfl, rfl, rfl⟩ := H3
            go_wp2_with fail
            go_ret3
            exact ⟨_, rfl, Kd.R_nil _ _ _ _ _, HB3.out⟩
          · rw [if_neg hm] at H3
            obtain ⟨⟨x, y, z⟩, h4, H3⟩ := Option.bind_eq_some_iff.mp H3
            have H4 := Aside0.mk h4
            clear h4
            by_cases hcap : o.length < 17592186044416
            · rw [if_pos hcap] at H3
              have H5 := Aside0.mk (show impl_LeastReplenished.l0 p k c d l s k1 (o ++ [m]) (wrap64 (sm + m)) (wrap64 (i + 1)) x (wrap64 (y + a)) z = some (r1, r2, r3) by rw [HAR.out]; exact H3)
              have HCAP := Aside0.mk hcap
              clear H3 hcap
              have b1 : w3.cell? ⟨w.heap.size + 1, 1, none⟩ = some (.int .i64 u) := (blk_cell DB3.out 1).trans rfl
              have b2 : w3.cell? ⟨w.heap.size + 1, 2, none⟩ = some (.int .i64 g) := (blk_cell DB3.out 2).trans rfl
              go_wp2_with fail
              refine (impl_Bath_replenished.calls v u g m x y z _ H4.out).mono ?_
              rintro e w4 ⟨rfl, hb⟩
              have DA4 := Aside0.mk (blk_below DA3.out hb)
              have DB4 := Aside0.mk (blk_below DB3.out hb)
              have DC4 := Aside0.mk (blk_below DC3.out hb)
              have HX4 := Aside0.mk (blk_below HX3.out hb)
              have HO4 := Aside0.mk (Kd.R_below HO3.out hb)
              have HB4 := Aside0.mk (below_step HB3.out hb)
              clear hb b0 b1 b2 DA3 DB3 DC3 HX3 HO3 HB3 hm
              obtain ⟨w5, h5⟩ : ∃ w5, w5 = w4.setRow (w.heap.size + 1) #[.int .i64 x, .int .i64 y, .int .i64 z] := ⟨_, rfl⟩
              have n0 : w.heap.size ≠ w.heap.size + 1 := by omega
              have n2 : w.heap.size + 2 ≠ w.heap.size + 1 := by omega
              have n3 : W.heap.size ≠ w.heap.size + 1 := by have := HG3.out; omega
              have DA5 := Aside0.mk (show w5.heap[w.heap.size]? = some (.cells #[.int .i64 p, .int .i64 k, .int .i8 c, .int .i8 d] 43 (0, 0)) by rw [h5, setRow_other w4 _ _ _ n0]; exact DA4.out)
              have DC5 := Aside0.mk (show w5.heap[w.heap.size + 2]? = some (.cells #[.int .i64 s] 2 (0, 0)) by rw [h5, setRow_other w4 _ _ _ n2]; exact DC4.out)
              have HX5 := Aside0.mk (show w5.heap[W.heap.size]? = some (.cells #[.int .i64 a] 2 (0, 0)) by rw [h5, setRow_other w4 _ _ _ n3]; exact HX4.out)
              have DB5 := Aside0.mk (show w5.heap[w.heap.size + 1]? = some (.cells #[.int .i64 x, .int .i64 y, .int .i64 z] 45 (0, 0)) by rw [h5]; exact setRow_heap w4 _ _ _ _ _ DB4.out)
              have HO5 := Aside0.mk (show Kd.R (Kd.int .i64) 2 w5 w.heap.size (fun k => k ≠ w.heap.size + 2 ∧ k ≠ w.heap.size + 1) u12 o by rw [h5]; exact Kd.R_step (Kd.R_types HO4.out DB4.out (by intro q hq; simp [Kd.E, Kd.int, Kd.scalar] at hq; omega)) (fun k hk _ => setRow_other w4 _ k _ hk.2))
              have HB5 := Aside0.mk (show Below w.heap.size w w5 by rw [h5]; exact lr_below_row HB4.out (by omega) _)
              have H55 := Aside0.mk h5
              clear DA4 DC4 HX4 HO4 HB4 n0 n2 n3
              have c1 : w5.cell? ⟨w.heap.size + 1, 1, none⟩ = some (.int .i64 y) := (blk_cell DB5.out 1).trans rfl
              have f1 := blk_frozen DB5.out 1
              have a0 : w5.cell? ⟨W.heap.size, 0, none⟩ = some (.int .i64 a) := (blk_cell HX5.out 0).trans rfl
              have hone := Aside0.mk (show (#[.int .i64 x, .int .i64 y, .int .i64 z] : Array Value).all (·.oneCell') = true by simp; exact ⟨rfl, rfl, rfl⟩)
              have DA6 := Aside0.mk (show (w5.setCell ⟨w.heap.size + 1, 1, none⟩ (.int .i64 (wrap64 (y + a)))).heap[w.heap.size]? = some (.cells #[.int .i64 p, .int .i64 k, .int .i8 c, .int .i8 d] 43 (0, 0)) by rw [heap_setCell_other w5 _ _ _ (by simp)]; exact DA5.out)
              have DC6 := Aside0.mk (show (w5.setCell ⟨w.heap.size + 1, 1, none⟩ (.int .i64 (wrap64 (y + a)))).heap[w.heap.size + 2]? = some (.cells #[.int .i64 s] 2 (0, 0)) by rw [heap_setCell_other w5 _ _ _ (by simp)]; exact DC5.out)
              have DB6 := Aside0.mk (show (w5.setCell ⟨w.heap.size + 1, 1, none⟩ (.int .i64 (wrap64 (y + a)))).heap[w.heap.size + 1]? = some (.cells #[.int .i64 x, .int .i64 (wrap64 (y + a)), .int .i64 z] 45 (0, 0)) by simpa using blk_set DB5.out 1 (.int .i64 (wrap64 (y + a))))
              have HO6 := Aside0.mk (show Kd.R (Kd.int .i64) 2 (w5.setCell ⟨w.heap.size + 1, 1, none⟩ (.int .i64 (wrap64 (y + a)))) w.heap.size (fun k_ => k_ ≠ w.heap.size + 2) u12 o from Kd.R_mono (Kd.R_far HO5.out (fun k hk => hk.2) _) (fun k hk => hk.1))
              have HB6 := Aside0.mk (show Below w.heap.size w (w5.setCell ⟨w.heap.size + 1, 1, none⟩ (.int .i64 (wrap64 (y + a)))) from below_set HB5.out (by omega))
              clear h5
              go_wp2_with (first | (refine wpList_store_row rfl 45 _ _ rfl (w.heap.size + 1) #[.int .i64 x, .int .i64 y, .int .i64 z] rfl rfl 45 _ DB4.out (by kernel_rfl) rfl hone.out ?_; rw [← H55.out]) | ((with_reducible refine gate_builtin (b := .append) (xs := #[.tmp 47, .tmp 49]) rfl ?_); at_builtin; refine Kd.R_append (Kd.int .i64) (w0 := w) w.heap.size rfl (.tmp 47) (.tmp 49) 27 2 (.int .i64 0) 8 rfl Try.underlying27 info2 rfl (by decide) (by omega) u12 o m [.int .i64 m] (fun k_ => k_ ≠ w.heap.size + 2) (fun _ => False) rfl (by show Value.slice (some ⟨w5.heap.size, 0, none⟩) 1 1 = _; simp) ?aP (fun _ hk => hk.elim) ?aF ?aO ?aB ?aS ?aL ?_; (case aP => exact rfl); (case aF => exact (fun k_ hk_ => by have := blk_lt DC6.out; omega)); (case aO => exact HO6.out); (case aB => exact HB6.out); (case aS => exact below_size HB6.out); (case aL => have := HCAP.out; omega); intro v50 w7 ho hb hg hat; have HO7 := Aside0.mk ho; have HB7 := Aside0.mk hb; have DA7 := Aside0.mk (blk_grown DA6.out hg (Kd.R_ne HO6.out DA6.out (by decide))); have DB7 := Aside0.mk (blk_grown DB6.out hg (Kd.R_ne HO6.out DB6.out (by decide))); have DC7 := Aside0.mk (blk_grown DC6.out hg (fun e_ => HO6.out.1 _ e_.symm rfl)); clear ho hb hg hat))
              go_roundg k1
              case measure => have := HK.out; omega
              case rel => exact ⟨o ++ [m], _, _, _, _, _, _, rfl, rfl, rfl, H5, ⟨by (have hmx := Kd.C_max HR.out); (have e9 : wrap64 (i + 1) = i + 1 := (by unfold wrap64; omega)); (rw [e9]; omega)⟩, ⟨by have := HK.out; omega⟩, HO7, DA7, DB7, DC7, HB7⟩
            · rw [if_neg hcap] at H3
              exact absurd H3 (by simp)
        · rw [if_neg hi] at H
          simp only [Option.some.injEq, Prod.mk.injEq] at H
          obtain ⟨rfl, rfl, rfl⟩ := H
          go_wp2_with fail
          go_ret3
          exact ⟨_, rfl, Kd.R_mono HO.out (fun _ _ => trivial), HB.out⟩
  · have H1 : some (([] : List Int), (0 : Int), t) = some (r1, r2, r3) := by have := H.out; rwa [if_neg ht0] at this
    simp only [Option.some.injEq, Prod.mk.injEq] at H1
    obtain ⟨rfl, rfl, rfl⟩ := H1
    have ht1 : (t != 0) = true := by simp [ht0]
    clear H ht0
    go_wp2_with fail
    go_ret3
    exact ⟨_, rfl, Kd.R_nil _ _ _ _ _, HB1.out⟩


end Go.Proofs.Ytldhgldknefjdaa.Q
