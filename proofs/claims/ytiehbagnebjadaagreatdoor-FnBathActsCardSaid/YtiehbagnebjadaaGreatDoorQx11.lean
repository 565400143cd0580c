-- Written by wip/mk.py of this repository (a run of the kit's print with hand-proved leaves added); Lean checks it.
import Derived.Test.YtiehbagnebjadaaGreatDoorQx0
import Derived.Test.YtiehbagnebjadaaGreatDoorQx2
import Derived.Test.YtiehbagnebjadaaGreatDoorQx4
import Derived.Test.YtiehbagnebjadaaGreatDoorQx5
import Derived.Test.YtiehbagnebjadaaGreatDoorQx6
import Derived.Test.YtiehbagnebjadaaGreatDoorQx7
namespace Go.Proofs.YtiehbagnebjadaaGreatDoor.Q
open Go.RowKit Go.Proofs.YtiehbagnebjadaaGreatDoorW.PrintWords Go.Proofs.YtiehbagnebjadaaGreatDoorW.PrintLast Go.Proofs.YtiehbagnebjadaaGreatDoorW.PrintMore
attribute [local go_sem] max2_int min2_int max_two min_two max_three min_three max_four min_four   -- for this text's walks alone
set_option linter.unusedVariables false
set_option linter.unusedSimpArgs false

/-! ### spec_A2Same: function 32 -/
def spec_A2Same.l0 : Nat → List Int → List Int → Int → Option (Bool)
 | 0, _, _, _ => none
 | k + 1, x0, x1, x5 => if x5 < (x0.length : Int) then (if 0 ≤ x5 then (if x5 < (x1.length : Int) then (if (rd x0 x5) = (rd x1 x5) then (spec_A2Same.l0 k x0 x1 (wrap64 (x5 + 1))) else (some false)) else (none)) else (none)) else (some true)
def spec_A2Same.f (k : Nat) (l0 : List Int) (l1 : List Int) : Option (Bool) := if (l0.length : Int) = (l1.length : Int) then (spec_A2Same.l0 k l0 l1 0) else (some false)
theorem spec_A2Same.mono_l : ∀ k, (∀ y0 y1 y2, LeO (spec_A2Same.l0 k y0 y1 y2) (spec_A2Same.l0 (k + 1) y0 y1 y2))
 | 0 => fun _ _ _ r h => by simp [spec_A2Same.l0] at h
 | k + 1 => by
  have ih0 := spec_A2Same.mono_l k
  ·intro y0 y1 y2
   unfold spec_A2Same.l0
   repeat' first
   | (with_reducible exact ih0 _ _ _)
   | (with_reducible exact LeO.refl _)
   | (with_reducible exact LeO.none _)
   | (with_reducible refine LeO.ite ?_ ?_)
   | (with_reducible refine LeO.bind ?_ (fun _ => ?_))
   | exact ih0 _ _ _
   | exact LeO.none _
   | refine LeO.ite ?_ ?_
   | refine LeO.bind ?_ (fun _ => ?_)
theorem spec_A2Same.mono : ∀ a0 a1 k, LeO (spec_A2Same.f k a0 a1) (spec_A2Same.f (k + 1) a0 a1) := by
 intro a0 a1 k
 have ih0 := spec_A2Same.mono_l k
 unfold spec_A2Same.f
 repeat' first
   | (with_reducible exact ih0 _ _ _)
   | (with_reducible exact LeO.refl _)
   | (with_reducible exact LeO.none _)
   | (with_reducible refine LeO.ite ?_ ?_)
   | (with_reducible refine LeO.bind ?_ (fun _ => ?_))
   | exact ih0 _ _ _
   | exact LeO.none _
   | refine LeO.ite ?_ ?_
   | refine LeO.bind ?_ (fun _ => ?_)
set_option maxHeartbeats 8000000 in
set_option maxRecDepth 100000 in
theorem spec_A2Same.calls (k : Nat) (A0 : Option Addr) (c0 : Nat) (l0 : List Int) (A1 : Option Addr) (c1 : Nat) (l1 : List Int) (r : Bool) (w : World) (hr0 : Kd.C (Kd.int .i64) w A0 l0.length l0) (hc0 : l0.length ≤ c0) (hr1 : Kd.C (Kd.int .i64) w A1 l1.length l1) (hc1 : l1.length ≤ c1) (h : spec_A2Same.f k l0 l1 = some r) :
  Calls Tryz.prog 32 #[.slice A0 l0.length c0, .slice A1 l1.length c1] w fun e w' => e = .returned (.bool r) ∧ Drawn0 w w' := by
 have HR0 := Aside0.mk hr0
 have HC0 := Aside0.mk hc0
 clear hr0 hc0
 have HR1 := Aside0.mk hr1
 have HC1 := Aside0.mk hc1
 clear hr1 hc1
 have H : (if (l0.length : Int) = (l1.length : Int) then (spec_A2Same.l0 k l0 l1 0) else (some false)) = some r := h
 clear h
 by_cases c3 : (l0.length : Int) = (l1.length : Int)
 ·rw [if_pos c3] at H
  have c3b0 : ((l0.length : Int) == (l1.length : Int)) = true := beq_iff_eq.mpr c3
  have c3b1 : ((l0.length : Int) != (l1.length : Int)) = false := bne_eq_false_iff_eq.mpr c3
  have c3b2 : (l0.length == l1.length) = true := by first | simpa using c3 | (simp at c3 ⊢; omega)
  clear c3
  have H' := Aside0.mk H
  clear H
  go_enter Tryz.func32, Tryz.ntmps32
  go_wp2
  repeat (go_quiet (fail); try go_wp2)
  go_loopg [5] k (fun kq v5 w' => ∃ (x5_1 : Int), v5 = .int .i64 x5_1 ∧ Aside0 (spec_A2Same.l0 kq l0 l1 x5_1 = some r) ∧ Aside0 (kq ≤ k) ∧ Drawn0 w w')
  case atStart => exact ⟨(0), (by first | rfl | (simp; done) | (simp [*]; done)), H', ⟨Nat.le_refl _⟩, by repeat (first | exact Drawn0.refl _ | apply Drawn0.step)⟩
  case round =>
   clear H'
   try clear c1
   try clear p2
   try clear c3
   try clear c3b0
   try clear c3b1
   try clear c3b2
   obtain ⟨x5_1, rfl, HA, HK1, ⟨m1, rfl⟩⟩ := hrel
   cases gk with
   | zero => exact absurd HA.out (by simp [spec_A2Same.l0])
   | succ k1 =>
    have H := HA.out
    clear HA
    simp only [spec_A2Same.l0] at H
    by_cases c4 : x5_1 < (l0.length : Int)
    ·rw [if_pos c4] at H
     have c4b0 : decide (x5_1 < (l0.length : Int)) = true := decide_eq_true c4
     clear c4
     by_cases c5 : 0 ≤ x5_1
     ·rw [if_pos c5] at H
      have c5b0 : decide (0 ≤ x5_1) = true := decide_eq_true c5
      clear c5
      by_cases c6 : x5_1 < (l1.length : Int)
      ·rw [if_pos c6] at H
       have c6b0 : decide (x5_1 < (l1.length : Int)) = true := decide_eq_true c6
       clear c6
       by_cases c7 : (rd l0 x5_1) = (rd l1 x5_1)
       ·rw [if_pos c7] at H
        have c7b0 : ((rd l0 x5_1) == (rd l1 x5_1)) = true := beq_iff_eq.mpr c7
        have c7b1 : ((rd l0 x5_1) != (rd l1 x5_1)) = false := bne_eq_false_iff_eq.mpr c7
        clear c7
        have H' := Aside0.mk H
        clear H
        have p424 : 0 ≤ (x5_1 : Int) := of_decide_eq_true (by first | (with_reducible assumption) | assumption)
        have q424 : x5_1 < (l0.length : Int) := of_decide_eq_true (by first | (with_reducible assumption) | assumption)
        obtain ⟨ad424, e424, hx424_0⟩ := Kd.at_int HR0.out x5_1 p424 q424
        cases e424
        replace p424 := eq_true p424
        replace q424 := eq_true q424
        have p425 : 0 ≤ (x5_1 : Int) := of_decide_eq_true (by first | (with_reducible assumption) | assumption)
        have q425 : x5_1 < (l1.length : Int) := of_decide_eq_true (by first | (with_reducible assumption) | assumption)
        obtain ⟨ad425, e425, hx425_0⟩ := Kd.at_int HR1.out x5_1 p425 q425
        cases e425
        replace p425 := eq_true p425
        replace q425 := eq_true q425
        go_wp2
        repeat (go_quiet (fail); try go_wp2)
        go_roundg k1
        case measure => have := HK1.out; omega
        case rel => exact ⟨(wrap64 (x5_1 + 1)), (by first | rfl | (simp; done) | (simp [*]; done)), H', ⟨by have := HK1.out; omega⟩, by repeat (first | exact Drawn0.refl _ | apply Drawn0.step)⟩
       ·rw [if_neg c7] at H
        have c7b0 : ((rd l0 x5_1) == (rd l1 x5_1)) = false := beq_eq_false_iff_ne.mpr c7
        have c7b1 : ((rd l0 x5_1) != (rd l1 x5_1)) = true := bne_iff_ne.mpr c7
        obtain rfl := Option.some.inj H
        have p424 : 0 ≤ (x5_1 : Int) := of_decide_eq_true (by first | (with_reducible assumption) | assumption)
        have q424 : x5_1 < (l0.length : Int) := of_decide_eq_true (by first | (with_reducible assumption) | assumption)
        obtain ⟨ad424, e424, hx424_0⟩ := Kd.at_int HR0.out x5_1 p424 q424
        cases e424
        replace p424 := eq_true p424
        replace q424 := eq_true q424
        have p425 : 0 ≤ (x5_1 : Int) := of_decide_eq_true (by first | (with_reducible assumption) | assumption)
        have q425 : x5_1 < (l1.length : Int) := of_decide_eq_true (by first | (with_reducible assumption) | assumption)
        obtain ⟨ad425, e425, hx425_0⟩ := Kd.at_int HR1.out x5_1 p425 q425
        cases e425
        replace p425 := eq_true p425
        replace q425 := eq_true q425
        go_wp2
        repeat (go_quiet (fail); try go_wp2)
        go_ret
        exact ⟨by first | rfl | (simp; done) | (simp [*]; done), by repeat (first | exact Drawn0.refl _ | apply Drawn0.step)⟩
      ·rw [if_neg c6] at H
       exact absurd H (by simp)
     ·rw [if_neg c5] at H
      exact absurd H (by simp)
    ·rw [if_neg c4] at H
     have c4b0 : decide (x5_1 < (l0.length : Int)) = false := decide_eq_false c4
     clear c4
     obtain rfl := Option.some.inj H
     go_wp2
     repeat (go_quiet (fail); try go_wp2)
     go_ret
     exact ⟨by first | rfl | (simp; done) | (simp [*]; done), by repeat (first | exact Drawn0.refl _ | apply Drawn0.step)⟩
 ·rw [if_neg c3] at H
  have c3b0 : ((l0.length : Int) == (l1.length : Int)) = false := beq_eq_false_iff_ne.mpr c3
  have c3b1 : ((l0.length : Int) != (l1.length : Int)) = true := bne_iff_ne.mpr c3
  have c3b2 : (l0.length == l1.length) = false := by first | simpa using c3 | (simp at c3 ⊢; omega)
  obtain rfl := Option.some.inj H
  go_enter Tryz.func32, Tryz.ntmps32
  go_wp2
  repeat (go_quiet (fail); try go_wp2)
  go_ret
  exact ⟨by first | rfl | (simp; done) | (simp [*]; done), by repeat (first | exact Drawn0.refl _ | apply Drawn0.step)⟩

/-! ### spec_StrengthOf: function 36 -/
def spec_StrengthOf.f (a0_0 : Int) (a0_1 : Int) (a0_2 : Int) (a0_3 : Int) (a1_0 : Int) (a1_1 : Int) (a1_2 : Int) : Option (Int × Int) := (spec_l04Ok.f a0_0 a0_1 a0_2 a0_3 a1_0 a1_1 a1_2).bind fun t428 => (if t428 = true then ((spec_l04Strength.f a0_0 a0_1 a0_2 a0_3 a1_0 a1_1 a1_2).bind fun t429 => (some (t429, 0))) else (some (0, 1)))
set_option maxHeartbeats 8000000 in
set_option maxRecDepth 100000 in
theorem spec_StrengthOf.calls (a0_0 : Int) (a0_1 : Int) (a0_2 : Int) (a0_3 : Int) (a1_0 : Int) (a1_1 : Int) (a1_2 : Int) (r1 : Int) (r2 : Int) (w : World) (h : spec_StrengthOf.f a0_0 a0_1 a0_2 a0_3 a1_0 a1_1 a1_2 = some (r1, r2)) :
  Calls Tryz.prog 36 #[.agg #[.int .i64 a0_0, .int .i64 a0_1, .int .i8 a0_2, .int .i8 a0_3], .agg #[.int .i64 a1_0, .int .i64 a1_1, .int .i64 a1_2]] w fun e w' => e = .returned (.tuple #[.int .i64 r1, .int .i64 r2]) ∧ Below w.heap.size w w' := by
 have hu45 := Tryz.underlying45
 have hu47 := Tryz.underlying47
 have HB := Aside0.mk (Below.refl w.heap.size w)
 have H : ((spec_l04Ok.f a0_0 a0_1 a0_2 a0_3 a1_0 a1_1 a1_2).bind fun t428 => (if t428 = true then ((spec_l04Strength.f a0_0 a0_1 a0_2 a0_3 a1_0 a1_1 a1_2).bind fun t429 => (some (t429, 0))) else (some (0, 1)))) = some (r1, r2) := h
 clear h
 replace H := Option.bind_eq_some_iff.mp H
 obtain ⟨t428, A30, H⟩ := H
 replace H : (if t428 = true then ((spec_l04Strength.f a0_0 a0_1 a0_2 a0_3 a1_0 a1_1 a1_2).bind fun t429 => (some (t429, 0))) else (some (0, 1))) = some (r1, r2) := H
 have A3 := Aside0.mk A30
 clear A30
 by_cases c4 : t428 = true
 ·subst c4
  have H1 : ((spec_l04Strength.f a0_0 a0_1 a0_2 a0_3 a1_0 a1_1 a1_2).bind fun t429 => (some (t429, 0))) = some (r1, r2) := by rw [if_pos rfl] at H; exact H
  clear H
  have H := H1
  clear H1
  replace H := Option.bind_eq_some_iff.mp H
  obtain ⟨t429, A50, H⟩ := H
  replace H : (some (t429, 0)) = some (r1, r2) := H
  have A5 := Aside0.mk A50
  clear A50
  simp only [Option.some.injEq, Prod.mk.injEq] at H
  obtain ⟨rfl, rfl⟩ := H
  go_enter Tryz.func36, Tryz.ntmps36
  go_wp2_with (first | ((with_reducible refine gate_dst (N := 2) rfl ?_); refine box_event ?hg (N := 2) ?hd (cs := #[.int .i64 a0_0, .int .i64 a0_1, .int .i8 a0_2, .int .i8 a0_3]) (t := 45) ?hr ?_; (case hd => rfl); (case hg => rfl); (case hr => first | (go_simp; done) | (go_simp; rfl)); intro gb426 hg w6 hbox hb; have n0_ := Aside0.mk (below_step HB.out hb); have n1_ := Aside0.mk (hbox); have n2_ := Aside0.mk ((by rw [hg]; exact (below_size HB.out) : w.heap.size ≤ gb426)); have n3_ := Aside0.mk ((by rw [hg]; exact (below_size HB.out) : w.heap.size ≤ gb426)); clear HB; have HB := n0_; have BK426 := n1_; have GW426 := n2_; have GE426 := n3_; clear n0_ n1_ n2_ n3_; clear hb hbox hg) | ((with_reducible refine gate_dst (N := 3) rfl ?_); refine box_event ?hg (N := 3) ?hd (cs := #[.int .i64 a1_0, .int .i64 a1_1, .int .i64 a1_2]) (t := 47) ?hr ?_; (case hd => rfl); (case hg => rfl); (case hr => first | (go_simp; done) | (go_simp; rfl)); intro gb427 hg w7 hbox hb; have n0_ := Aside0.mk (blk_below BK426.out hb); have n1_ := Aside0.mk (below_step HB.out hb); have n2_ := Aside0.mk (hbox); have n3_ := Aside0.mk ((by rw [hg]; exact (below_size HB.out) : w.heap.size ≤ gb427)); have n4_ := Aside0.mk ((by rw [hg]; exact (below_size HB.out) : w.heap.size ≤ gb427)); have n5_ := Aside0.mk ((by rw [hg]; exact Nat.ne_of_lt (blk_lt BK426.out) : gb426 ≠ gb427)); have n6_ := Aside0.mk ((by rw [hg]; exact Nat.ne_of_gt (blk_lt BK426.out) : gb427 ≠ gb426)); clear BK426; clear HB; have BK426 := n0_; have HB := n1_; have BK427 := n2_; have GW427 := n3_; have GE427 := n4_; have NB426_427 := n5_; have NB427_426 := n6_; clear n0_ n1_ n2_ n3_ n4_ n5_ n6_; clear hb hbox hg; have hnb8 := NB426_427.out; have hnc8 := NB427_426.out; have hcz9_0 := blk_c BK426.out 0 rfl; have hcz9_1 := blk_c BK426.out 1 rfl; have hcz9_2 := blk_c BK426.out 2 rfl; have hcz9_3 := blk_c BK426.out 3 rfl; have hfz9_0 := blk_frozen BK426.out 0; have hfz9_1 := blk_frozen BK426.out 1; have hfz9_2 := blk_frozen BK426.out 2; have hfz9_3 := blk_frozen BK426.out 3; have hcz10_0 := blk_c BK427.out 0 rfl; have hcz10_1 := blk_c BK427.out 1 rfl; have hcz10_2 := blk_c BK427.out 2 rfl; have hfz10_0 := blk_frozen BK427.out 0; have hfz10_1 := blk_frozen BK427.out 1; have hfz10_2 := blk_frozen BK427.out 2) | ((with_reducible refine gate_callee (f := 100) rfl ?_); refine goesL_ (some 8) rfl rfl Tryz.func100 (by kernel_rfl) rfl #[.agg #[.int .i64 a0_0, .int .i64 a0_1, .int .i8 a0_2, .int .i8 a0_3], .agg #[.int .i64 a1_0, .int .i64 a1_1, .int .i64 a1_2]] rfl (by (try simp only [List.map_toArray, List.map_cons, List.map_nil]); first | done | rfl | (simp only [List.length_drop, List.length_take]; rfl)) ?_; (with_reducible refine (spec_l04Ok.calls a0_0 a0_1 a0_2 a0_3 a1_0 a1_1 a1_2 true _ A3.out).mono ?_); rintro e w11 ⟨rfl, hb⟩; refine ⟨_, rfl, ?_⟩; have n0_ := Aside0.mk (blk_below BK426.out hb); have n1_ := Aside0.mk (blk_below BK427.out hb); have n2_ := Aside0.mk (below_step HB.out hb); clear BK426; clear BK427; clear HB; have BK426 := n0_; have BK427 := n1_; have HB := n2_; clear n0_ n1_ n2_; (try clear hb); (try clear hb2); (try clear hk); (try clear hi); have hcz12_0 := blk_c BK426.out 0 rfl; have hcz12_1 := blk_c BK426.out 1 rfl; have hcz12_2 := blk_c BK426.out 2 rfl; have hcz12_3 := blk_c BK426.out 3 rfl; have hfz12_0 := blk_frozen BK426.out 0; have hfz12_1 := blk_frozen BK426.out 1; have hfz12_2 := blk_frozen BK426.out 2; have hfz12_3 := blk_frozen BK426.out 3; have hcz13_0 := blk_c BK427.out 0 rfl; have hcz13_1 := blk_c BK427.out 1 rfl; have hcz13_2 := blk_c BK427.out 2 rfl; have hfz13_0 := blk_frozen BK427.out 0; have hfz13_1 := blk_frozen BK427.out 1; have hfz13_2 := blk_frozen BK427.out 2) | ((with_reducible refine gate_callee (f := 91) rfl ?_); refine goesL_ (some 12) rfl rfl Tryz.func91 (by kernel_rfl) rfl #[.agg #[.int .i64 a0_0, .int .i64 a0_1, .int .i8 a0_2, .int .i8 a0_3], .agg #[.int .i64 a1_0, .int .i64 a1_1, .int .i64 a1_2]] rfl (by (try simp only [List.map_toArray, List.map_cons, List.map_nil]); first | done | rfl | (simp only [List.length_drop, List.length_take]; rfl)) ?_; (with_reducible refine (spec_l04Strength.calls a0_0 a0_1 a0_2 a0_3 a1_0 a1_1 a1_2 t429 _ A5.out).mono ?_); rintro e w14 ⟨rfl, hb⟩; refine ⟨_, rfl, ?_⟩; have n0_ := Aside0.mk (blk_below BK426.out hb); have n1_ := Aside0.mk (blk_below BK427.out hb); have n2_ := Aside0.mk (below_step HB.out hb); clear BK426; clear BK427; clear HB; have BK426 := n0_; have BK427 := n1_; have HB := n2_; clear n0_ n1_ n2_; (try clear hb); (try clear hb2); (try clear hk); (try clear hi)))
  go_ret2
  exact ⟨by first | rfl | (simp [errW_none, errW_some] <;> rfl) | (simp [*, errW_none, errW_some] <;> rfl), by repeat (first | (with_reducible first | exact HB.out | apply below_alloc | apply pw_below_drewN | apply below_drew1 | refine below_set ?_ GE426.out | refine below_set ?_ GE427.out) | exact HB.out)⟩
 ·replace c4 := Bool.eq_false_iff.mpr c4
  subst c4
  have H1 : (some (0, 1)) = some (r1, r2) := by rw [if_neg (show ¬ (false = true) by decide)] at H; exact H
  clear H
  have H := H1
  clear H1
  simp only [Option.some.injEq, Prod.mk.injEq] at H
  obtain ⟨rfl, rfl⟩ := H
  go_enter Tryz.func36, Tryz.ntmps36
  go_wp2_with (first | ((with_reducible refine gate_dst (N := 2) rfl ?_); refine box_event ?hg (N := 2) ?hd (cs := #[.int .i64 a0_0, .int .i64 a0_1, .int .i8 a0_2, .int .i8 a0_3]) (t := 45) ?hr ?_; (case hd => rfl); (case hg => rfl); (case hr => first | (go_simp; done) | (go_simp; rfl)); intro gb426 hg w15 hbox hb; have n0_ := Aside0.mk (below_step HB.out hb); have n1_ := Aside0.mk (hbox); have n2_ := Aside0.mk ((by rw [hg]; exact (below_size HB.out) : w.heap.size ≤ gb426)); have n3_ := Aside0.mk ((by rw [hg]; exact (below_size HB.out) : w.heap.size ≤ gb426)); clear HB; have HB := n0_; have BK426 := n1_; have GW426 := n2_; have GE426 := n3_; clear n0_ n1_ n2_ n3_; clear hb hbox hg) | ((with_reducible refine gate_dst (N := 3) rfl ?_); refine box_event ?hg (N := 3) ?hd (cs := #[.int .i64 a1_0, .int .i64 a1_1, .int .i64 a1_2]) (t := 47) ?hr ?_; (case hd => rfl); (case hg => rfl); (case hr => first | (go_simp; done) | (go_simp; rfl)); intro gb427 hg w16 hbox hb; have n0_ := Aside0.mk (blk_below BK426.out hb); have n1_ := Aside0.mk (below_step HB.out hb); have n2_ := Aside0.mk (hbox); have n3_ := Aside0.mk ((by rw [hg]; exact (below_size HB.out) : w.heap.size ≤ gb427)); have n4_ := Aside0.mk ((by rw [hg]; exact (below_size HB.out) : w.heap.size ≤ gb427)); have n5_ := Aside0.mk ((by rw [hg]; exact Nat.ne_of_lt (blk_lt BK426.out) : gb426 ≠ gb427)); have n6_ := Aside0.mk ((by rw [hg]; exact Nat.ne_of_gt (blk_lt BK426.out) : gb427 ≠ gb426)); clear BK426; clear HB; have BK426 := n0_; have HB := n1_; have BK427 := n2_; have GW427 := n3_; have GE427 := n4_; have NB426_427 := n5_; have NB427_426 := n6_; clear n0_ n1_ n2_ n3_ n4_ n5_ n6_; clear hb hbox hg; have hnb17 := NB426_427.out; have hnc17 := NB427_426.out; have hcz18_0 := blk_c BK426.out 0 rfl; have hcz18_1 := blk_c BK426.out 1 rfl; have hcz18_2 := blk_c BK426.out 2 rfl; have hcz18_3 := blk_c BK426.out 3 rfl; have hfz18_0 := blk_frozen BK426.out 0; have hfz18_1 := blk_frozen BK426.out 1; have hfz18_2 := blk_frozen BK426.out 2; have hfz18_3 := blk_frozen BK426.out 3; have hcz19_0 := blk_c BK427.out 0 rfl; have hcz19_1 := blk_c BK427.out 1 rfl; have hcz19_2 := blk_c BK427.out 2 rfl; have hfz19_0 := blk_frozen BK427.out 0; have hfz19_1 := blk_frozen BK427.out 1; have hfz19_2 := blk_frozen BK427.out 2) | ((with_reducible refine gate_callee (f := 100) rfl ?_); refine goesL_ (some 8) rfl rfl Tryz.func100 (by kernel_rfl) rfl #[.agg #[.int .i64 a0_0, .int .i64 a0_1, .int .i8 a0_2, .int .i8 a0_3], .agg #[.int .i64 a1_0, .int .i64 a1_1, .int .i64 a1_2]] rfl (by (try simp only [List.map_toArray, List.map_cons, List.map_nil]); first | done | rfl | (simp only [List.length_drop, List.length_take]; rfl)) ?_; (with_reducible refine (spec_l04Ok.calls a0_0 a0_1 a0_2 a0_3 a1_0 a1_1 a1_2 false _ A3.out).mono ?_); rintro e w20 ⟨rfl, hb⟩; refine ⟨_, rfl, ?_⟩; have n0_ := Aside0.mk (blk_below BK426.out hb); have n1_ := Aside0.mk (blk_below BK427.out hb); have n2_ := Aside0.mk (below_step HB.out hb); clear BK426; clear BK427; clear HB; have BK426 := n0_; have BK427 := n1_; have HB := n2_; clear n0_ n1_ n2_; (try clear hb); (try clear hb2); (try clear hk); (try clear hi)))
  go_ret2
  exact ⟨by first | rfl | (simp [errW_none, errW_some] <;> rfl) | (simp [*, errW_none, errW_some] <;> rfl), by repeat (first | (with_reducible first | exact HB.out | apply below_alloc | apply pw_below_drewN | apply below_drew1 | refine below_set ?_ GE426.out | refine below_set ?_ GE427.out) | exact HB.out)⟩

/-! ### laws_a2At: function 37 -/
def laws_a2At.f (l0 : List Int) (a1 : Int) (a2 : Int) : Option (Int) := if a1 ≥ (l0.length : Int) then (some 0) else (if a2 < 1 then (some 0) else (if 0 ≤ a1 then (if a1 < (l0.length : Int) then (if a2 = 0 then (none) else (some (Int.tmod (wrap64 (rd l0 a1)) a2))) else (none)) else (none)))
set_option maxHeartbeats 8000000 in
set_option maxRecDepth 100000 in
theorem laws_a2At.calls (A0 : Option Addr) (c0 : Nat) (l0 : List Int) (a1 : Int) (a2 : Int) (r : Int) (w : World) (hr0 : Kd.C (Kd.int .u8) w A0 l0.length l0) (hc0 : l0.length ≤ c0) (h : laws_a2At.f l0 a1 a2 = some r) :
  Calls Tryz.prog 37 #[.slice A0 l0.length c0, .int .i64 a1, .int .i64 a2] w fun e w' => e = .returned (.int .i64 r) ∧ Drawn0 w w' := by
 have HR0 := Aside0.mk hr0
 have HC0 := Aside0.mk hc0
 clear hr0 hc0
 have H : (if a1 ≥ (l0.length : Int) then (some 0) else (if a2 < 1 then (some 0) else (if 0 ≤ a1 then (if a1 < (l0.length : Int) then (if a2 = 0 then (none) else (some (Int.tmod (wrap64 (rd l0 a1)) a2))) else (none)) else (none)))) = some r := h
 clear h
 by_cases c4 : a1 ≥ (l0.length : Int)
 ·rw [if_pos c4] at H
  have c4b0 : decide ((l0.length : Int) ≤ a1) = true := decide_eq_true c4
  clear c4
  obtain rfl := Option.some.inj H
  go_enter Tryz.func37, Tryz.ntmps37
  go_wp2
  go_ret
  exact ⟨by first | rfl | (simp; done) | (simp [*]; done), by repeat (first | exact Drawn0.refl _ | apply Drawn0.step)⟩
 ·rw [if_neg c4] at H
  have c4b0 : decide ((l0.length : Int) ≤ a1) = false := decide_eq_false c4
  clear c4
  by_cases c5 : a2 < 1
  ·rw [if_pos c5] at H
   have c5b0 : decide (a2 < 1) = true := decide_eq_true c5
   clear c5
   obtain rfl := Option.some.inj H
   go_enter Tryz.func37, Tryz.ntmps37
   go_wp2
   go_ret
   exact ⟨by first | rfl | (simp; done) | (simp [*]; done), by repeat (first | exact Drawn0.refl _ | apply Drawn0.step)⟩
  ·rw [if_neg c5] at H
   have c5b0 : decide (a2 < 1) = false := decide_eq_false c5
   clear c5
   by_cases c6 : 0 ≤ a1
   ·rw [if_pos c6] at H
    have c6b0 : decide (0 ≤ a1) = true := decide_eq_true c6
    clear c6
    by_cases c7 : a1 < (l0.length : Int)
    ·rw [if_pos c7] at H
     have c7b0 : decide (a1 < (l0.length : Int)) = true := decide_eq_true c7
     clear c7
     by_cases c8 : a2 = 0
     ·rw [if_pos c8] at H
      exact absurd H (by simp)
     ·rw [if_neg c8] at H
      have c8b0 : (a2 == 0) = false := beq_eq_false_iff_ne.mpr c8
      have c8b1 : (a2 != 0) = true := bne_iff_ne.mpr c8
      obtain rfl := Option.some.inj H
      have p430 : 0 ≤ (a1 : Int) := of_decide_eq_true (by first | (with_reducible assumption) | assumption)
      have q430 : a1 < (l0.length : Int) := of_decide_eq_true (by first | (with_reducible assumption) | assumption)
      obtain ⟨ad430, e430, hx430_0⟩ := Kd.at_int HR0.out a1 p430 q430
      cases e430
      replace p430 := eq_true p430
      replace q430 := eq_true q430
      go_enter Tryz.func37, Tryz.ntmps37
      go_wp2
      go_ret
      exact ⟨by first | rfl | (simp; done) | (simp [*]; done), by repeat (first | exact Drawn0.refl _ | apply Drawn0.step)⟩
    ·rw [if_neg c7] at H
     exact absurd H (by simp)
   ·rw [if_neg c6] at H
    exact absurd H (by simp)

/-! ### impl_floor: function 101 -/
def impl_floor.f (a0 : Int) (a1 : Int) : Option (Int) := if a0 < 0 then (if a1 = 0 then (none) else (some (wrap64 (-(wrap64 (Int.tdiv (wrap64 ((wrap64 ((wrap64 (-a0)) + a1)) - 1)) a1)))))) else (if a1 = 0 then (none) else (some (wrap64 (Int.tdiv a0 a1))))
set_option maxHeartbeats 8000000 in
set_option maxRecDepth 100000 in
theorem impl_floor.calls (a0 : Int) (a1 : Int) (r : Int) (w : World) (h : impl_floor.f a0 a1 = some r) :
  Calls Tryz.prog 101 #[.int .i64 a0, .int .i64 a1] w fun e w' => e = .returned (.int .i64 r) ∧ Drawn0 w w' := by
 have H : (if a0 < 0 then (if a1 = 0 then (none) else (some (wrap64 (-(wrap64 (Int.tdiv (wrap64 ((wrap64 ((wrap64 (-a0)) + a1)) - 1)) a1)))))) else (if a1 = 0 then (none) else (some (wrap64 (Int.tdiv a0 a1))))) = some r := h
 clear h
 by_cases c3 : a0 < 0
 ·rw [if_pos c3] at H
  have c3b0 : decide (a0 < 0) = true := decide_eq_true c3
  clear c3
  by_cases c4 : a1 = 0
  ·rw [if_pos c4] at H
   exact absurd H (by simp)
  ·rw [if_neg c4] at H
   have c4b0 : (a1 == 0) = false := beq_eq_false_iff_ne.mpr c4
   have c4b1 : (a1 != 0) = true := bne_iff_ne.mpr c4
   obtain rfl := Option.some.inj H
   go_enter Tryz.func101, Tryz.ntmps101
   go_wp2
   go_ret
   exact ⟨by first | rfl | (simp; done) | (simp [*]; done), by repeat (first | exact Drawn0.refl _ | apply Drawn0.step)⟩
 ·rw [if_neg c3] at H
  have c3b0 : decide (a0 < 0) = false := decide_eq_false c3
  clear c3
  by_cases c5 : a1 = 0
  ·rw [if_pos c5] at H
   exact absurd H (by simp)
  ·rw [if_neg c5] at H
   have c5b0 : (a1 == 0) = false := beq_eq_false_iff_ne.mpr c5
   have c5b1 : (a1 != 0) = true := bne_iff_ne.mpr c5
   obtain rfl := Option.some.inj H
   go_enter Tryz.func101, Tryz.ntmps101
   go_wp2
   go_ret
   exact ⟨by first | rfl | (simp; done) | (simp [*]; done), by repeat (first | exact Drawn0.refl _ | apply Drawn0.step)⟩

/-! ### impl_DevelopTime: function 38 -/
def impl_DevelopTime.f (n : Nat) (p : Int) (k : Int) (c : Int) (d : Int) (v : Int) (u : Int) (g : Int) (a2 : Int) (a3 : Int) : Option (Int × Int) := (impl_ValidBath.f p k c d v u g).bind fun t1 => (if t1 = true then ((impl_areThirds.f a2).bind fun t2 => (if t2 = true then ((impl_within.f a3 5 50).bind fun t3 => (if t3 = true then ((impl_Bath_strength.f v u g p k c d).bind fun t4 => ((impl_slower.f n t4).bind fun t5 => ((impl_floor.f (wrap64 ((wrap64 (c)) - a3)) (wrap64 (d))).bind fun t6 => ((impl_areThirds.f t5).bind fun t7 => (if t7 = true then ((impl_areThirds.f (wrap64 ((wrap64 (a2 + t5)) + t6))).bind fun t8 => (if t8 = true then ((impl_timeOf.f (wrap64 ((wrap64 (a2 + t5)) + t6))).bind fun t9 => (some (t9, 0))) else (some (0, 3)))) else (some (0, 4))))))) else (some (0, 2)))) else (some (0, 2)))) else (some (0, 1)))
theorem impl_DevelopTime.mono : ∀ a0 a1 a2 a3 a4 a5 a6 a7 a8 k, LeO (impl_DevelopTime.f k a0 a1 a2 a3 a4 a5 a6 a7 a8) (impl_DevelopTime.f (k + 1) a0 a1 a2 a3 a4 a5 a6 a7 a8) := by
 intro a0 a1 a2 a3 a4 a5 a6 a7 a8 k
 unfold impl_DevelopTime.f
 repeat' first
 | (with_reducible exact impl_slower.mono _ _)
 | (with_reducible exact LeO.refl _)
 | (with_reducible refine LeO.ite ?_ ?_)
 | (with_reducible refine LeO.bind ?_ (fun _ => ?_))
set_option maxHeartbeats 8000000 in
set_option maxRecDepth 100000 in
theorem impl_DevelopTime.calls (n : Nat) (p : Int) (k : Int) (c : Int) (d : Int) (v : Int) (u : Int) (g : Int) (a2 : Int) (a3 : Int) (r1 : Int) (r2 : Int) (w : World) (h : impl_DevelopTime.f n p k c d v u g a2 a3 = some (r1, r2)) :
  Calls Tryz.prog 38 #[.agg #[.int .i64 p, .int .i64 k, .int .i8 c, .int .i8 d], .agg #[.int .i64 v, .int .i64 u, .int .i64 g], .int .i64 a2, .int .i64 a3] w fun e w' => e = .returned (.tuple #[.int .i64 r1, .int .i64 r2]) ∧ Below w.heap.size w w' := by
 have H' := Aside0.mk (show impl_DevelopTime.f n p k c d v u g a2 a3 = some (r1, r2) from h)
 clear h
 have HD := Aside0.mk (show HBx ((w.alloc (.cells ([.int .i64 p, .int .i64 k, .int .i8 c, .int .i8 d] : List Value).toArray 45)).alloc (.cells ([.int .i64 v, .int .i64 u, .int .i64 g] : List Value).toArray 47)) w.heap.size 45 [.int .i64 p, .int .i64 k, .int .i8 c, .int .i8 d] from (heap_alloc_old _ _ (by simp)).trans (heap_alloc_new _ _))
 have HB := Aside0.mk (show HBx ((w.alloc (.cells ([.int .i64 p, .int .i64 k, .int .i8 c, .int .i8 d] : List Value).toArray 45)).alloc (.cells ([.int .i64 v, .int .i64 u, .int .i64 g] : List Value).toArray 47)) (w.heap.size + 1) 47 [.int .i64 v, .int .i64 u, .int .i64 g] from heap_alloc2_new w _ _)
 have HL := Aside0.mk (show Below w.heap.size w ((w.alloc (.cells ([.int .i64 p, .int .i64 k, .int .i8 c, .int .i8 d] : List Value).toArray 45)).alloc (.cells ([.int .i64 v, .int .i64 u, .int .i64 g] : List Value).toArray 47)) from ((Below.refl _ _).alloc (Nat.le_refl _) _).alloc (by simp) _)
 have H := H'.out
 clear H'
 unfold impl_DevelopTime.f at H
 go_enter Tryz.func38, Tryz.ntmps38
 obtain ⟨t1, e1, H⟩ := Option.bind_eq_some_iff.mp H
 have E1 := Aside0.mk e1
 clear e1
 have H' := Aside0.mk H
 clear H
 go_wp2_with (first | (refine hx_load rfl 45 _ rfl w.heap.size rfl 45 [.int .i64 p, .int .i64 k, .int .i8 c, .int .i8 d] HD.out _ Tryz.underlying45 rfl (by kernel_rfl) ?_) | (refine hx_load rfl 47 _ rfl (w.heap.size + 1) rfl 47 [.int .i64 v, .int .i64 u, .int .i64 g] HB.out _ Tryz.underlying47 rfl (by kernel_rfl) ?_))
 refine (impl_ValidBath.calls p k c d v u g t1 _ E1.out).mono ?_
 rintro e w1 ⟨rfl, hb⟩
 have HD1 := Aside0.mk (HD.out.below hb)
 have HB1 := Aside0.mk (HB.out.below hb)
 have HL1 := Aside0.mk (below_step HL.out hb)
 clear hb HD HB HL
 have H := H'.out
 clear H'
 cases t1 with
 | false =>
  simp only [Bool.false_eq_true, if_false, Option.some.injEq, Prod.mk.injEq] at H
  obtain ⟨rfl, rfl⟩ := H
  go_wp2_with fail
  go_ret2
  exact ⟨rfl, HL1.out⟩
 | true =>
  rw [if_pos rfl] at H
  obtain ⟨t2, e2, H⟩ := Option.bind_eq_some_iff.mp H
  have E2 := Aside0.mk e2
  clear e2
  have H' := Aside0.mk H
  clear H
  go_wp2_with (first | (refine hx_load rfl 45 _ rfl w.heap.size rfl 45 [.int .i64 p, .int .i64 k, .int .i8 c, .int .i8 d] HD1.out _ Tryz.underlying45 rfl (by kernel_rfl) ?_) | (refine hx_load rfl 47 _ rfl (w.heap.size + 1) rfl 47 [.int .i64 v, .int .i64 u, .int .i64 g] HB1.out _ Tryz.underlying47 rfl (by kernel_rfl) ?_))
  refine (impl_areThirds.calls a2 t2 _ E2.out).mono ?_
  rintro e w2 ⟨rfl, hb⟩
  replace hb := hb.below
  have HD2 := Aside0.mk (HD1.out.below hb)
  have HB2 := Aside0.mk (HB1.out.below hb)
  have HL2 := Aside0.mk (below_step HL1.out hb)
  clear hb HD1 HB1 HL1
  have H := H'.out
  clear H'
  cases t2 with
  | false =>
   simp only [Bool.false_eq_true, if_false, Option.some.injEq, Prod.mk.injEq] at H
   obtain ⟨rfl, rfl⟩ := H
   go_wp2_with fail
   go_ret2
   exact ⟨rfl, HL2.out⟩
  | true =>
   rw [if_pos rfl] at H
   obtain ⟨t3, e3, H⟩ := Option.bind_eq_some_iff.mp H
   have E3 := Aside0.mk e3
   clear e3
   have H' := Aside0.mk H
   clear H
   go_wp2_with (first | (refine hx_load rfl 45 _ rfl w.heap.size rfl 45 [.int .i64 p, .int .i64 k, .int .i8 c, .int .i8 d] HD2.out _ Tryz.underlying45 rfl (by kernel_rfl) ?_) | (refine hx_load rfl 47 _ rfl (w.heap.size + 1) rfl 47 [.int .i64 v, .int .i64 u, .int .i64 g] HB2.out _ Tryz.underlying47 rfl (by kernel_rfl) ?_))
   refine (impl_within.calls a3 5 50 t3 _ E3.out).mono ?_
   rintro e w3 ⟨rfl, hb⟩
   replace hb := hb.below
   have HD3 := Aside0.mk (HD2.out.below hb)
   have HB3 := Aside0.mk (HB2.out.below hb)
   have HL3 := Aside0.mk (below_step HL2.out hb)
   clear hb HD2 HB2 HL2
   have H := H'.out
   clear H'
   cases t3 with
   | false =>
    simp only [Bool.false_eq_true, if_false, Option.some.injEq, Prod.mk.injEq] at H
    obtain ⟨rfl, rfl⟩ := H
    go_wp2_with fail
    go_ret2
    exact ⟨rfl, HL3.out⟩
   | true =>
    rw [if_pos rfl] at H
    obtain ⟨t4, e4, H⟩ := Option.bind_eq_some_iff.mp H
    have E4 := Aside0.mk e4
    clear e4
    have H' := Aside0.mk H
    clear H
    go_wp2_with (first | (refine hx_load rfl 45 _ rfl w.heap.size rfl 45 [.int .i64 p, .int .i64 k, .int .i8 c, .int .i8 d] HD3.out _ Tryz.underlying45 rfl (by kernel_rfl) ?_) | (refine hx_load rfl 47 _ rfl (w.heap.size + 1) rfl 47 [.int .i64 v, .int .i64 u, .int .i64 g] HB3.out _ Tryz.underlying47 rfl (by kernel_rfl) ?_))
    refine (impl_Bath_strength.calls v u g p k c d t4 _ E4.out).mono ?_
    rintro e w4 ⟨rfl, hb⟩
    have HD4 := Aside0.mk (HD3.out.below hb)
    have HB4 := Aside0.mk (HB3.out.below hb)
    have HL4 := Aside0.mk (below_step HL3.out hb)
    clear hb HD3 HB3 HL3
    have H := H'.out
    clear H'
    obtain ⟨t5, e5, H⟩ := Option.bind_eq_some_iff.mp H
    have E5 := Aside0.mk e5
    clear e5
    have H' := Aside0.mk H
    clear H
    go_wp2_with (first | (refine hx_load rfl 45 _ rfl w.heap.size rfl 45 [.int .i64 p, .int .i64 k, .int .i8 c, .int .i8 d] HD4.out _ Tryz.underlying45 rfl (by kernel_rfl) ?_) | (refine hx_load rfl 47 _ rfl (w.heap.size + 1) rfl 47 [.int .i64 v, .int .i64 u, .int .i64 g] HB4.out _ Tryz.underlying47 rfl (by kernel_rfl) ?_))
    refine (impl_slower.calls n t4 t5 _ E5.out).mono ?_
    rintro e w5 ⟨rfl, hb⟩
    replace hb := hb.below
    have HD5 := Aside0.mk (HD4.out.below hb)
    have HB5 := Aside0.mk (HB4.out.below hb)
    have HL5 := Aside0.mk (below_step HL4.out hb)
    clear hb HD4 HB4 HL4
    have H := H'.out
    clear H'
    obtain ⟨t6, e6, H⟩ := Option.bind_eq_some_iff.mp H
    have E6 := Aside0.mk e6
    clear e6
    have H' := Aside0.mk H
    clear H
    have hc2 := HD5.out.cell 2 (v := .int .i8 c) rfl
    have hc3 := HD5.out.cell 3 (v := .int .i8 d) rfl
    go_wp2_with (first | (refine hx_load rfl 45 _ rfl w.heap.size rfl 45 [.int .i64 p, .int .i64 k, .int .i8 c, .int .i8 d] HD5.out _ Tryz.underlying45 rfl (by kernel_rfl) ?_) | (refine hx_load rfl 47 _ rfl (w.heap.size + 1) rfl 47 [.int .i64 v, .int .i64 u, .int .i64 g] HB5.out _ Tryz.underlying47 rfl (by kernel_rfl) ?_))
    refine (impl_floor.calls (wrap64 ((wrap64 (c)) - a3)) (wrap64 (d)) t6 _ E6.out).mono ?_
    rintro e w6 ⟨rfl, hb⟩
    replace hb := hb.below
    have HD6 := Aside0.mk (HD5.out.below hb)
    have HB6 := Aside0.mk (HB5.out.below hb)
    have HL6 := Aside0.mk (below_step HL5.out hb)
    clear hb HD5 HB5 HL5
    have H := H'.out
    clear H'
    clear hc2 hc3
    obtain ⟨t7, e7, H⟩ := Option.bind_eq_some_iff.mp H
    have E7 := Aside0.mk e7
    clear e7
    have H' := Aside0.mk H
    clear H
    go_wp2_with (first | (refine hx_load rfl 45 _ rfl w.heap.size rfl 45 [.int .i64 p, .int .i64 k, .int .i8 c, .int .i8 d] HD6.out _ Tryz.underlying45 rfl (by kernel_rfl) ?_) | (refine hx_load rfl 47 _ rfl (w.heap.size + 1) rfl 47 [.int .i64 v, .int .i64 u, .int .i64 g] HB6.out _ Tryz.underlying47 rfl (by kernel_rfl) ?_))
    refine (impl_areThirds.calls t5 t7 _ E7.out).mono ?_
    rintro e w7 ⟨rfl, hb⟩
    replace hb := hb.below
    have HD7 := Aside0.mk (HD6.out.below hb)
    have HB7 := Aside0.mk (HB6.out.below hb)
    have HL7 := Aside0.mk (below_step HL6.out hb)
    clear hb HD6 HB6 HL6
    have H := H'.out
    clear H'
    cases t7 with
    | false =>
     simp only [Bool.false_eq_true, if_false, Option.some.injEq, Prod.mk.injEq] at H
     obtain ⟨rfl, rfl⟩ := H
     go_wp2_with fail
     go_ret2
     exact ⟨rfl, HL7.out⟩
    | true =>
     rw [if_pos rfl] at H
     obtain ⟨t8, e8, H⟩ := Option.bind_eq_some_iff.mp H
     have E8 := Aside0.mk e8
     clear e8
     have H' := Aside0.mk H
     clear H
     go_wp2_with (first | (refine hx_load rfl 45 _ rfl w.heap.size rfl 45 [.int .i64 p, .int .i64 k, .int .i8 c, .int .i8 d] HD7.out _ Tryz.underlying45 rfl (by kernel_rfl) ?_) | (refine hx_load rfl 47 _ rfl (w.heap.size + 1) rfl 47 [.int .i64 v, .int .i64 u, .int .i64 g] HB7.out _ Tryz.underlying47 rfl (by kernel_rfl) ?_))
     refine (impl_areThirds.calls (wrap64 ((wrap64 (a2 + t5)) + t6)) t8 _ E8.out).mono ?_
     rintro e w8 ⟨rfl, hb⟩
     replace hb := hb.below
     have HD8 := Aside0.mk (HD7.out.below hb)
     have HB8 := Aside0.mk (HB7.out.below hb)
     have HL8 := Aside0.mk (below_step HL7.out hb)
     clear hb HD7 HB7 HL7
     have H := H'.out
     clear H'
     cases t8 with
     | false =>
      simp only [Bool.false_eq_true, if_false, Option.some.injEq, Prod.mk.injEq] at H
      obtain ⟨rfl, rfl⟩ := H
      go_wp2_with fail
      go_ret2
      exact ⟨rfl, HL8.out⟩
     | true =>
      rw [if_pos rfl] at H
      obtain ⟨t9, e9, H⟩ := Option.bind_eq_some_iff.mp H
      have E9 := Aside0.mk e9
      clear e9
      have H' := Aside0.mk H
      clear H
      go_wp2_with (first | (refine hx_load rfl 45 _ rfl w.heap.size rfl 45 [.int .i64 p, .int .i64 k, .int .i8 c, .int .i8 d] HD8.out _ Tryz.underlying45 rfl (by kernel_rfl) ?_) | (refine hx_load rfl 47 _ rfl (w.heap.size + 1) rfl 47 [.int .i64 v, .int .i64 u, .int .i64 g] HB8.out _ Tryz.underlying47 rfl (by kernel_rfl) ?_))
      refine (impl_timeOf.calls (wrap64 ((wrap64 (a2 + t5)) + t6)) t9 _ E9.out).mono ?_
      rintro e w9 ⟨rfl, hb⟩
      replace hb := hb.below
      have HD9 := Aside0.mk (HD8.out.below hb)
      have HB9 := Aside0.mk (HB8.out.below hb)
      have HL9 := Aside0.mk (below_step HL8.out hb)
      clear hb HD8 HB8 HL8
      have H := H'.out
      clear H'
      simp only [Option.some.injEq, Prod.mk.injEq] at H
      obtain ⟨rfl, rfl⟩ := H
      go_wp2_with fail
      go_ret2
      exact ⟨rfl, HL9.out⟩


/-! ### spec_l04Down: function 105 -/
def spec_l04Down.f (a0 : Int) (a1 : Int) : Option (Int) := if a1 = 0 then (none) else (if (Int.tmod a0 a1) < 0 then (some (wrap64 ((wrap64 (Int.tdiv a0 a1)) - 1))) else (some (wrap64 (Int.tdiv a0 a1))))
set_option maxHeartbeats 8000000 in
set_option maxRecDepth 100000 in
theorem spec_l04Down.calls (a0 : Int) (a1 : Int) (r : Int) (w : World) (h : spec_l04Down.f a0 a1 = some r) :
  Calls Tryz.prog 105 #[.int .i64 a0, .int .i64 a1] w fun e w' => e = .returned (.int .i64 r) ∧ Drawn0 w w' := by
 have H : (if a1 = 0 then (none) else (if (Int.tmod a0 a1) < 0 then (some (wrap64 ((wrap64 (Int.tdiv a0 a1)) - 1))) else (some (wrap64 (Int.tdiv a0 a1))))) = some r := h
 clear h
 by_cases c3 : a1 = 0
 ·rw [if_pos c3] at H
  exact absurd H (by simp)
 ·rw [if_neg c3] at H
  have c3b0 : (a1 == 0) = false := beq_eq_false_iff_ne.mpr c3
  have c3b1 : (a1 != 0) = true := bne_iff_ne.mpr c3
  by_cases c4 : (Int.tmod a0 a1) < 0
  ·rw [if_pos c4] at H
   have c4b0 : decide ((Int.tmod a0 a1) < 0) = true := decide_eq_true c4
   clear c4
   obtain rfl := Option.some.inj H
   go_enter Tryz.func105, Tryz.ntmps105
   go_wp2
   go_ret
   exact ⟨by first | rfl | (simp; done) | (simp [*]; done), by repeat (first | exact Drawn0.refl _ | apply Drawn0.step)⟩
  ·rw [if_neg c4] at H
   have c4b0 : decide ((Int.tmod a0 a1) < 0) = false := decide_eq_false c4
   clear c4
   obtain rfl := Option.some.inj H
   go_enter Tryz.func105, Tryz.ntmps105
   go_wp2
   go_ret
   exact ⟨by first | rfl | (simp; done) | (simp [*]; done), by repeat (first | exact Drawn0.refl _ | apply Drawn0.step)⟩

/-! ### spec_DevelopTime: function 39 -/
def spec_DevelopTime.j0 : Nat → Int → Int → Bool → Int → Int → Int → Int → Int → Int → Int → Option (Int × Int)
 | 0, _, _, _, _, _, _, _, _, _, _ => none
 | k + 1, x2, x3, x23, x432000, x432001, x432002, x432003, x433000, x433001, x433002 => if x23 = true then (some (0, 2)) else ((spec_l04Strength.f x432000 x432001 x432002 x432003 x433000 x433001 x433002).bind fun t436 => ((spec_l04Slower.f k t436).bind fun t437 => (if t437 < 0 then (some (0, 4)) else ((spec_l04Down.f (wrap64 ((wrap64 (x432002)) - x3)) (wrap64 (x432003))).bind fun t438 => ((spec_l00In.f (wrap64 ((wrap64 (x2 + t437)) + t438)) 0 36).bind fun t439 => (if t439 = true then ((spec_l01Time.f (wrap64 ((wrap64 (x2 + t437)) + t438))).bind fun t440 => (some (t440, 0))) else (some (0, 3))))))))
def spec_DevelopTime.f (k : Nat) (a0_0 : Int) (a0_1 : Int) (a0_2 : Int) (a0_3 : Int) (a1_0 : Int) (a1_1 : Int) (a1_2 : Int) (a2 : Int) (a3 : Int) : Option (Int × Int) := (spec_l04Ok.f a0_0 a0_1 a0_2 a0_3 a1_0 a1_1 a1_2).bind fun t433 => (if t433 = true then ((spec_l00In.f a2 0 36).bind fun t434 => (if t434 = true then ((spec_l00In.f a3 5 50).bind fun t435 => (spec_DevelopTime.j0 k a2 a3 (!t435) a0_0 a0_1 a0_2 a0_3 a1_0 a1_1 a1_2)) else (spec_DevelopTime.j0 k a2 a3 true a0_0 a0_1 a0_2 a0_3 a1_0 a1_1 a1_2))) else (some (0, 1)))
theorem spec_DevelopTime.mono_l : ∀ k, (∀ y0 y1 y2 y3 y4 y5 y6 y7 y8 y9, LeO (spec_DevelopTime.j0 k y0 y1 y2 y3 y4 y5 y6 y7 y8 y9) (spec_DevelopTime.j0 (k + 1) y0 y1 y2 y3 y4 y5 y6 y7 y8 y9))
 | 0 => fun _ _ _ _ _ _ _ _ _ _ r h => by simp [spec_DevelopTime.j0] at h
 | k + 1 => by
  have ih0 := spec_DevelopTime.mono_l k
  ·intro y0 y1 y2 y3 y4 y5 y6 y7 y8 y9
   unfold spec_DevelopTime.j0
   repeat' first
   | (with_reducible exact ih0 _ _ _ _ _ _ _ _ _ _)
   | (with_reducible exact spec_l04Slower.mono _ _)
   | (with_reducible exact LeO.refl _)
   | (with_reducible exact LeO.none _)
   | (with_reducible refine LeO.ite ?_ ?_)
   | (with_reducible refine LeO.bind ?_ (fun _ => ?_))
   | exact ih0 _ _ _ _ _ _ _ _ _ _
   | exact spec_l04Slower.mono _ _
   | exact LeO.none _
   | refine LeO.ite ?_ ?_
   | refine LeO.bind ?_ (fun _ => ?_)
theorem spec_DevelopTime.mono : ∀ a0 a1 a2 a3 a4 a5 a6 a7 a8 k, LeO (spec_DevelopTime.f k a0 a1 a2 a3 a4 a5 a6 a7 a8) (spec_DevelopTime.f (k + 1) a0 a1 a2 a3 a4 a5 a6 a7 a8) := by
 intro a0 a1 a2 a3 a4 a5 a6 a7 a8 k
 have ih0 := spec_DevelopTime.mono_l k
 unfold spec_DevelopTime.f
 repeat' first
   | (with_reducible exact ih0 _ _ _ _ _ _ _ _ _ _)
   | (with_reducible exact spec_l04Slower.mono _ _)
   | (with_reducible exact LeO.refl _)
   | (with_reducible exact LeO.none _)
   | (with_reducible refine LeO.ite ?_ ?_)
   | (with_reducible refine LeO.bind ?_ (fun _ => ?_))
   | exact ih0 _ _ _ _ _ _ _ _ _ _
   | exact spec_l04Slower.mono _ _
   | exact LeO.none _
   | refine LeO.ite ?_ ?_
   | refine LeO.bind ?_ (fun _ => ?_)
set_option maxHeartbeats 8000000 in
set_option maxRecDepth 100000 in
theorem spec_DevelopTime.calls (k : Nat) (a0_0 : Int) (a0_1 : Int) (a0_2 : Int) (a0_3 : Int) (a1_0 : Int) (a1_1 : Int) (a1_2 : Int) (a2 : Int) (a3 : Int) (r1 : Int) (r2 : Int) (w : World) (h : spec_DevelopTime.f k a0_0 a0_1 a0_2 a0_3 a1_0 a1_1 a1_2 a2 a3 = some (r1, r2)) :
  Calls Tryz.prog 39 #[.agg #[.int .i64 a0_0, .int .i64 a0_1, .int .i8 a0_2, .int .i8 a0_3], .agg #[.int .i64 a1_0, .int .i64 a1_1, .int .i64 a1_2], .int .i64 a2, .int .i64 a3] w fun e w' => e = .returned (.tuple #[.int .i64 r1, .int .i64 r2]) ∧ Below w.heap.size w w' := by
 have hu45 := Tryz.underlying45
 have hu47 := Tryz.underlying47
 have HB := Aside0.mk (Below.refl w.heap.size w)
 have H : ((spec_l04Ok.f a0_0 a0_1 a0_2 a0_3 a1_0 a1_1 a1_2).bind fun t433 => (if t433 = true then ((spec_l00In.f a2 0 36).bind fun t434 => (if t434 = true then ((spec_l00In.f a3 5 50).bind fun t435 => (spec_DevelopTime.j0 k a2 a3 (!t435) a0_0 a0_1 a0_2 a0_3 a1_0 a1_1 a1_2)) else (spec_DevelopTime.j0 k a2 a3 true a0_0 a0_1 a0_2 a0_3 a1_0 a1_1 a1_2))) else (some (0, 1)))) = some (r1, r2) := h
 clear h
 replace H := Option.bind_eq_some_iff.mp H
 obtain ⟨t433, A50, H⟩ := H
 replace H : (if t433 = true then ((spec_l00In.f a2 0 36).bind fun t434 => (if t434 = true then ((spec_l00In.f a3 5 50).bind fun t435 => (spec_DevelopTime.j0 k a2 a3 (!t435) a0_0 a0_1 a0_2 a0_3 a1_0 a1_1 a1_2)) else (spec_DevelopTime.j0 k a2 a3 true a0_0 a0_1 a0_2 a0_3 a1_0 a1_1 a1_2))) else (some (0, 1))) = some (r1, r2) := H
 have A5 := Aside0.mk A50
 clear A50
 by_cases c6 : t433 = true
 ·subst c6
  have H1 : ((spec_l00In.f a2 0 36).bind fun t434 => (if t434 = true then ((spec_l00In.f a3 5 50).bind fun t435 => (spec_DevelopTime.j0 k a2 a3 (!t435) a0_0 a0_1 a0_2 a0_3 a1_0 a1_1 a1_2)) else (spec_DevelopTime.j0 k a2 a3 true a0_0 a0_1 a0_2 a0_3 a1_0 a1_1 a1_2))) = some (r1, r2) := by rw [if_pos rfl] at H; exact H
  clear H
  have H := H1
  clear H1
  have HC7 := Aside0.mk H
  clear H
  go_enter Tryz.func39, Tryz.ntmps39
  go_upto_region 3 with (first | ((with_reducible refine gate_dst (N := 4) rfl ?_); refine box_event ?hg (N := 4) ?hd (cs := #[.int .i64 a0_0, .int .i64 a0_1, .int .i8 a0_2, .int .i8 a0_3]) (t := 45) ?hr ?_; (case hd => rfl); (case hg => rfl); (case hr => first | (go_simp; done) | (go_simp; rfl)); intro gb431 hg w8 hbox hb; have n0_ := Aside0.mk (below_step HB.out hb); have n1_ := Aside0.mk (hbox); have n2_ := Aside0.mk ((by rw [hg]; exact (below_size HB.out) : w.heap.size ≤ gb431)); have n3_ := Aside0.mk ((by rw [hg]; exact (below_size HB.out) : w.heap.size ≤ gb431)); clear HB; have HB := n0_; have BK431 := n1_; have GW431 := n2_; have GE431 := n3_; clear n0_ n1_ n2_ n3_; clear hb hbox hg) | ((with_reducible refine gate_dst (N := 5) rfl ?_); refine box_event ?hg (N := 5) ?hd (cs := #[.int .i64 a1_0, .int .i64 a1_1, .int .i64 a1_2]) (t := 47) ?hr ?_; (case hd => rfl); (case hg => rfl); (case hr => first | (go_simp; done) | (go_simp; rfl)); intro gb432 hg w9 hbox hb; have n0_ := Aside0.mk (blk_below BK431.out hb); have n1_ := Aside0.mk (below_step HB.out hb); have n2_ := Aside0.mk (hbox); have n3_ := Aside0.mk ((by rw [hg]; exact (below_size HB.out) : w.heap.size ≤ gb432)); have n4_ := Aside0.mk ((by rw [hg]; exact (below_size HB.out) : w.heap.size ≤ gb432)); have n5_ := Aside0.mk ((by rw [hg]; exact Nat.ne_of_lt (blk_lt BK431.out) : gb431 ≠ gb432)); have n6_ := Aside0.mk ((by rw [hg]; exact Nat.ne_of_gt (blk_lt BK431.out) : gb432 ≠ gb431)); clear BK431; clear HB; have BK431 := n0_; have HB := n1_; have BK432 := n2_; have GW432 := n3_; have GE432 := n4_; have NB431_432 := n5_; have NB432_431 := n6_; clear n0_ n1_ n2_ n3_ n4_ n5_ n6_; clear hb hbox hg; have hnb10 := NB431_432.out; have hnc10 := NB432_431.out; have hcz11_0 := blk_c BK431.out 0 rfl; have hcz11_1 := blk_c BK431.out 1 rfl; have hcz11_2 := blk_c BK431.out 2 rfl; have hcz11_3 := blk_c BK431.out 3 rfl; have hfz11_0 := blk_frozen BK431.out 0; have hfz11_1 := blk_frozen BK431.out 1; have hfz11_2 := blk_frozen BK431.out 2; have hfz11_3 := blk_frozen BK431.out 3; have hcz12_0 := blk_c BK432.out 0 rfl; have hcz12_1 := blk_c BK432.out 1 rfl; have hcz12_2 := blk_c BK432.out 2 rfl; have hfz12_0 := blk_frozen BK432.out 0; have hfz12_1 := blk_frozen BK432.out 1; have hfz12_2 := blk_frozen BK432.out 2) | ((with_reducible refine gate_callee (f := 100) rfl ?_); refine goesL_ (some 14) rfl rfl Tryz.func100 (by kernel_rfl) rfl #[.agg #[.int .i64 a0_0, .int .i64 a0_1, .int .i8 a0_2, .int .i8 a0_3], .agg #[.int .i64 a1_0, .int .i64 a1_1, .int .i64 a1_2]] rfl (by (try simp only [List.map_toArray, List.map_cons, List.map_nil]); first | done | rfl | (simp only [List.length_drop, List.length_take]; rfl)) ?_; (with_reducible refine (spec_l04Ok.calls a0_0 a0_1 a0_2 a0_3 a1_0 a1_1 a1_2 true _ A5.out).mono ?_); rintro e w13 ⟨rfl, hb⟩; refine ⟨_, rfl, ?_⟩; have n0_ := Aside0.mk (blk_below BK431.out hb); have n1_ := Aside0.mk (blk_below BK432.out hb); have n2_ := Aside0.mk (below_step HB.out hb); clear BK431; clear BK432; clear HB; have BK431 := n0_; have BK432 := n1_; have HB := n2_; clear n0_ n1_ n2_; (try clear hb); (try clear hb2); (try clear hk); (try clear hi)))
  (try simp only [Act.put, List.setIfInBounds_toArray, List.set_cons_zero, List.set_cons_succ])
  go_cut [23] (fun v23 wc => ∃ (kq : Nat) (x23_6 : Bool), v23 = .bool x23_6 ∧ Aside0 (spec_DevelopTime.j0 kq a2 a3 x23_6 a0_0 a0_1 a0_2 a0_3 a1_0 a1_1 a1_2 = some (r1, r2)) ∧ Aside0 (kq ≤ k) ∧ Aside0 (wc.heap[gb431]? = some (.cells #[.int .i64 a0_0, .int .i64 a0_1, .int .i8 a0_2, .int .i8 a0_3] 45 (0, 0))) ∧ Aside0 (wc.heap[gb432]? = some (.cells #[.int .i64 a1_0, .int .i64 a1_1, .int .i64 a1_2] 47 (0, 0))) ∧ Aside0 (Below w.heap.size w wc))
  case first =>
   have H := HC7.out
   clear HC7
   replace H := Option.bind_eq_some_iff.mp H
   obtain ⟨t434, A140, H⟩ := H
   replace H : (if t434 = true then ((spec_l00In.f a3 5 50).bind fun t435 => (spec_DevelopTime.j0 k a2 a3 (!t435) a0_0 a0_1 a0_2 a0_3 a1_0 a1_1 a1_2)) else (spec_DevelopTime.j0 k a2 a3 true a0_0 a0_1 a0_2 a0_3 a1_0 a1_1 a1_2)) = some (r1, r2) := H
   have A14 := Aside0.mk A140
   clear A140
   by_cases c15 : t434 = true
   ·subst c15
    have H1 : ((spec_l00In.f a3 5 50).bind fun t435 => (spec_DevelopTime.j0 k a2 a3 (!t435) a0_0 a0_1 a0_2 a0_3 a1_0 a1_1 a1_2)) = some (r1, r2) := by rw [if_pos rfl] at H; exact H
    clear H
    have H := H1
    clear H1
    replace H := Option.bind_eq_some_iff.mp H
    obtain ⟨t435, A160, H⟩ := H
    replace H : (spec_DevelopTime.j0 k a2 a3 (!t435) a0_0 a0_1 a0_2 a0_3 a1_0 a1_1 a1_2) = some (r1, r2) := H
    have A16 := Aside0.mk A160
    clear A160
    have H' := Aside0.mk H
    clear H
    go_wp2_with (first | ((with_reducible refine gate_callee (f := 103) rfl ?_); refine goesL_ (some 17) rfl rfl Tryz.func103 (by kernel_rfl) rfl #[.int .i64 a2, .int .i64 0, .int .i64 36] rfl (by (try simp only [List.map_toArray, List.map_cons, List.map_nil]); first | done | rfl | (simp only [List.length_drop, List.length_take]; rfl)) ?_; (with_reducible refine (spec_l00In.calls a2 0 36 true _ A14.out).mono ?_); rintro e w' ⟨rfl, ⟨nd, rfl⟩⟩; refine ⟨_, rfl, ?_⟩) | (go_at_call 103; (with_reducible refine (spec_l00In.calls a3 5 50 t435 _ A16.out).mono ?_); rintro e w' ⟨rfl, ⟨nd, rfl⟩⟩))
    go_meet
    case rel => exact ⟨_, (!t435), (by first | rfl | (simp; done) | (simp [*]; done)), H', ⟨by first | omega | exact Nat.le_refl _⟩, ⟨by (with_reducible repeat (first | refine blk_drewN ?_ _ | refine blk_drew ?_ | refine blk_alloc ?_ _)); exact BK431.out⟩, ⟨by (with_reducible repeat (first | refine blk_drewN ?_ _ | refine blk_drew ?_ | refine blk_alloc ?_ _)); exact BK432.out⟩, ⟨by repeat (first | (with_reducible first | exact HB.out | apply below_alloc | apply pw_below_drewN | apply below_drew1 | refine below_set ?_ GE431.out | refine below_set ?_ GE432.out) | exact HB.out)⟩⟩
   ·replace c15 := Bool.eq_false_iff.mpr c15
    subst c15
    have H1 : (spec_DevelopTime.j0 k a2 a3 true a0_0 a0_1 a0_2 a0_3 a1_0 a1_1 a1_2) = some (r1, r2) := by rw [if_neg (show ¬ (false = true) by decide)] at H; exact H
    clear H
    have H := H1
    clear H1
    have H' := Aside0.mk H
    clear H
    go_wp2_with (first | ((with_reducible refine gate_callee (f := 103) rfl ?_); refine goesL_ (some 17) rfl rfl Tryz.func103 (by kernel_rfl) rfl #[.int .i64 a2, .int .i64 0, .int .i64 36] rfl (by (try simp only [List.map_toArray, List.map_cons, List.map_nil]); first | done | rfl | (simp only [List.length_drop, List.length_take]; rfl)) ?_; (with_reducible refine (spec_l00In.calls a2 0 36 false _ A14.out).mono ?_); rintro e w' ⟨rfl, ⟨nd, rfl⟩⟩; refine ⟨_, rfl, ?_⟩))
    go_meet
    case rel => exact ⟨_, (true), (by first | rfl | (simp; done) | (simp [*]; done)), H', ⟨by first | omega | exact Nat.le_refl _⟩, ⟨by (with_reducible repeat (first | refine blk_drewN ?_ _ | refine blk_drew ?_ | refine blk_alloc ?_ _)); exact BK431.out⟩, ⟨by (with_reducible repeat (first | refine blk_drewN ?_ _ | refine blk_drew ?_ | refine blk_alloc ?_ _)); exact BK432.out⟩, ⟨by repeat (first | (with_reducible first | exact HB.out | apply below_alloc | apply pw_below_drewN | apply below_drew1 | refine below_set ?_ GE431.out | refine below_set ?_ GE432.out) | exact HB.out)⟩⟩
  case rest =>
   clear HC7
   try clear c1
   try clear p2
   try clear c3
   try clear c6
   try clear c10
   try clear c15
   try clear hcz11_0
   try clear hcz11_1
   try clear hcz11_2
   try clear hcz11_3
   try clear hcz12_0
   try clear hcz12_1
   try clear hcz12_2
   try clear hfz11_0
   try clear hfz11_1
   try clear hfz11_2
   try clear hfz11_3
   try clear hfz12_0
   try clear hfz12_1
   try clear hfz12_2
   obtain ⟨kq, x23_6, rfl, HA, HJ6, BK431, BK432, HB⟩ := hcut
   cases kq with
   | zero => exact absurd HA.out (by simp [spec_DevelopTime.j0])
   | succ kj6 =>
    have H := HA.out
    clear HA
    simp only [spec_DevelopTime.j0] at H
    by_cases c17 : x23_6 = true
    ·subst c17
     have H1 : (some (0, 2)) = some (r1, r2) := by rw [if_pos rfl] at H; exact H
     clear H
     have H := H1
     clear H1
     simp only [Option.some.injEq, Prod.mk.injEq] at H
     obtain ⟨rfl, rfl⟩ := H
     go_wp2
     go_ret2
     exact ⟨by first | rfl | (simp [errW_none, errW_some] <;> rfl) | (simp [*, errW_none, errW_some] <;> rfl), by repeat (first | (with_reducible first | exact HB.out | apply below_alloc | apply pw_below_drewN | apply below_drew1 | refine below_set ?_ GE431.out | refine below_set ?_ GE432.out) | exact HB.out)⟩
    ·replace c17 := Bool.eq_false_iff.mpr c17
     subst c17
     have H1 : ((spec_l04Strength.f a0_0 a0_1 a0_2 a0_3 a1_0 a1_1 a1_2).bind fun t436 => ((spec_l04Slower.f kj6 t436).bind fun t437 => (if t437 < 0 then (some (0, 4)) else ((spec_l04Down.f (wrap64 ((wrap64 (a0_2)) - a3)) (wrap64 (a0_3))).bind fun t438 => ((spec_l00In.f (wrap64 ((wrap64 (a2 + t437)) + t438)) 0 36).bind fun t439 => (if t439 = true then ((spec_l01Time.f (wrap64 ((wrap64 (a2 + t437)) + t438))).bind fun t440 => (some (t440, 0))) else (some (0, 3)))))))) = some (r1, r2) := by rw [if_neg (show ¬ (false = true) by decide)] at H; exact H
     clear H
     have H := H1
     clear H1
     replace H := Option.bind_eq_some_iff.mp H
     obtain ⟨t436, A180, H⟩ := H
     replace H : ((spec_l04Slower.f kj6 t436).bind fun t437 => (if t437 < 0 then (some (0, 4)) else ((spec_l04Down.f (wrap64 ((wrap64 (a0_2)) - a3)) (wrap64 (a0_3))).bind fun t438 => ((spec_l00In.f (wrap64 ((wrap64 (a2 + t437)) + t438)) 0 36).bind fun t439 => (if t439 = true then ((spec_l01Time.f (wrap64 ((wrap64 (a2 + t437)) + t438))).bind fun t440 => (some (t440, 0))) else (some (0, 3))))))) = some (r1, r2) := H
     have A18 := Aside0.mk A180
     clear A180
     replace H := Option.bind_eq_some_iff.mp H
     obtain ⟨t437, A190, H⟩ := H
     replace H : (if t437 < 0 then (some (0, 4)) else ((spec_l04Down.f (wrap64 ((wrap64 (a0_2)) - a3)) (wrap64 (a0_3))).bind fun t438 => ((spec_l00In.f (wrap64 ((wrap64 (a2 + t437)) + t438)) 0 36).bind fun t439 => (if t439 = true then ((spec_l01Time.f (wrap64 ((wrap64 (a2 + t437)) + t438))).bind fun t440 => (some (t440, 0))) else (some (0, 3)))))) = some (r1, r2) := H
     have A19 := Aside0.mk A190
     clear A190
     by_cases c20 : t437 < 0
     ·rw [if_pos c20] at H
      have c20b0 : decide (t437 < 0) = true := decide_eq_true c20
      clear c20
      simp only [Option.some.injEq, Prod.mk.injEq] at H
      obtain ⟨rfl, rfl⟩ := H
      have hnb21 := NB431_432.out
      have hnc21 := NB432_431.out
      have hcz22_0 := blk_c BK431.out 0 rfl
      have hcz22_1 := blk_c BK431.out 1 rfl
      have hcz22_2 := blk_c BK431.out 2 rfl
      have hcz22_3 := blk_c BK431.out 3 rfl
      have hfz22_0 := blk_frozen BK431.out 0
      have hfz22_1 := blk_frozen BK431.out 1
      have hfz22_2 := blk_frozen BK431.out 2
      have hfz22_3 := blk_frozen BK431.out 3
      have hcz23_0 := blk_c BK432.out 0 rfl
      have hcz23_1 := blk_c BK432.out 1 rfl
      have hcz23_2 := blk_c BK432.out 2 rfl
      have hfz23_0 := blk_frozen BK432.out 0
      have hfz23_1 := blk_frozen BK432.out 1
      have hfz23_2 := blk_frozen BK432.out 2
      go_wp2_with (first | ((with_reducible refine gate_callee (f := 91) rfl ?_); refine goesL_ (some 26) rfl rfl Tryz.func91 (by kernel_rfl) rfl #[.agg #[.int .i64 a0_0, .int .i64 a0_1, .int .i8 a0_2, .int .i8 a0_3], .agg #[.int .i64 a1_0, .int .i64 a1_1, .int .i64 a1_2]] rfl (by (try simp only [List.map_toArray, List.map_cons, List.map_nil]); first | done | rfl | (simp only [List.length_drop, List.length_take]; rfl)) ?_; (with_reducible refine (spec_l04Strength.calls a0_0 a0_1 a0_2 a0_3 a1_0 a1_1 a1_2 t436 _ A18.out).mono ?_); rintro e w24 ⟨rfl, hb⟩; refine ⟨_, rfl, ?_⟩; have n0_ := Aside0.mk (blk_below BK431.out hb); have n1_ := Aside0.mk (blk_below BK432.out hb); have n2_ := Aside0.mk (below_step HB.out hb); clear BK431; clear BK432; clear HB; have BK431 := n0_; have BK432 := n1_; have HB := n2_; clear n0_ n1_ n2_; (try clear hb); (try clear hb2); (try clear hk); (try clear hi)) | ((with_reducible refine gate_callee (f := 104) rfl ?_); refine goesL_ (some 27) rfl rfl Tryz.func104 (by kernel_rfl) rfl #[.int .i64 t436] rfl (by (try simp only [List.map_toArray, List.map_cons, List.map_nil]); first | done | rfl | (simp only [List.length_drop, List.length_take]; rfl)) ?_; (with_reducible refine (spec_l04Slower.calls kj6 t436 t437 _ A19.out).mono ?_); rintro e w25 ⟨rfl, hb⟩; refine ⟨_, rfl, ?_⟩; have n0_ := Aside0.mk (blk_below BK431.out hb); have n1_ := Aside0.mk (blk_below BK432.out hb); have n2_ := Aside0.mk (below_step HB.out hb); clear BK431; clear BK432; clear HB; have BK431 := n0_; have BK432 := n1_; have HB := n2_; clear n0_ n1_ n2_; (try clear hb); (try clear hb2); (try clear hk); (try clear hi)))
      go_ret2
      exact ⟨by first | rfl | (simp [errW_none, errW_some] <;> rfl) | (simp [*, errW_none, errW_some] <;> rfl), by repeat (first | (with_reducible first | exact HB.out | apply below_alloc | apply pw_below_drewN | apply below_drew1 | refine below_set ?_ GE431.out | refine below_set ?_ GE432.out) | exact HB.out)⟩
     ·rw [if_neg c20] at H
      have c20b0 : decide (t437 < 0) = false := decide_eq_false c20
      clear c20
      replace H := Option.bind_eq_some_iff.mp H
      obtain ⟨t438, A260, H⟩ := H
      replace H : ((spec_l00In.f (wrap64 ((wrap64 (a2 + t437)) + t438)) 0 36).bind fun t439 => (if t439 = true then ((spec_l01Time.f (wrap64 ((wrap64 (a2 + t437)) + t438))).bind fun t440 => (some (t440, 0))) else (some (0, 3)))) = some (r1, r2) := H
      have A26 := Aside0.mk A260
      clear A260
      replace H := Option.bind_eq_some_iff.mp H
      obtain ⟨t439, A270, H⟩ := H
      replace H : (if t439 = true then ((spec_l01Time.f (wrap64 ((wrap64 (a2 + t437)) + t438))).bind fun t440 => (some (t440, 0))) else (some (0, 3))) = some (r1, r2) := H
      have A27 := Aside0.mk A270
      clear A270
      by_cases c28 : t439 = true
      ·subst c28
       have H1 : ((spec_l01Time.f (wrap64 ((wrap64 (a2 + t437)) + t438))).bind fun t440 => (some (t440, 0))) = some (r1, r2) := by rw [if_pos rfl] at H; exact H
       clear H
       have H := H1
       clear H1
       replace H := Option.bind_eq_some_iff.mp H
       obtain ⟨t440, A290, H⟩ := H
       replace H : (some (t440, 0)) = some (r1, r2) := H
       have A29 := Aside0.mk A290
       clear A290
       simp only [Option.some.injEq, Prod.mk.injEq] at H
       obtain ⟨rfl, rfl⟩ := H
       have hnb30 := NB431_432.out
       have hnc30 := NB432_431.out
       have hcz31_0 := blk_c BK431.out 0 rfl
       have hcz31_1 := blk_c BK431.out 1 rfl
       have hcz31_2 := blk_c BK431.out 2 rfl
       have hcz31_3 := blk_c BK431.out 3 rfl
       have hfz31_0 := blk_frozen BK431.out 0
       have hfz31_1 := blk_frozen BK431.out 1
       have hfz31_2 := blk_frozen BK431.out 2
       have hfz31_3 := blk_frozen BK431.out 3
       have hcz32_0 := blk_c BK432.out 0 rfl
       have hcz32_1 := blk_c BK432.out 1 rfl
       have hcz32_2 : wc.cell? ⟨gb432, 2, none⟩ = some (.int .i64 a1_2) := (blk_cell BK432.out 2).trans rfl
       have hfz32_0 := blk_frozen BK432.out 0
       have hfz32_1 := blk_frozen BK432.out 1
       have hfz32_2 := blk_frozen BK432.out 2
       go_wp2_with (first | ((with_reducible refine gate_callee (f := 91) rfl ?_); refine goesL_ (some 26) rfl rfl Tryz.func91 (by kernel_rfl) rfl #[.agg #[.int .i64 a0_0, .int .i64 a0_1, .int .i8 a0_2, .int .i8 a0_3], .agg #[.int .i64 a1_0, .int .i64 a1_1, .int .i64 a1_2]] rfl (by (try simp only [List.map_toArray, List.map_cons, List.map_nil]); first | done | rfl | (simp only [List.length_drop, List.length_take]; rfl)) ?_; (with_reducible refine (spec_l04Strength.calls a0_0 a0_1 a0_2 a0_3 a1_0 a1_1 a1_2 t436 _ A18.out).mono ?_); rintro e w33 ⟨rfl, hb⟩; refine ⟨_, rfl, ?_⟩; have n0_ := Aside0.mk (blk_below (g := gb431) (o := .cells #[.int .i64 a0_0, .int .i64 a0_1, .int .i8 a0_2, .int .i8 a0_3] 45 (0, 0)) (by (with_reducible repeat (first | refine blk_drewN ?_ _ | refine blk_drew ?_ | refine blk_alloc ?_ _)); exact BK431.out) hb); have n1_ := Aside0.mk (blk_below (g := gb432) (o := .cells #[.int .i64 a1_0, .int .i64 a1_1, .int .i64 a1_2] 47 (0, 0)) (by (with_reducible repeat (first | refine blk_drewN ?_ _ | refine blk_drew ?_ | refine blk_alloc ?_ _)); exact BK432.out) hb); have n2_ := Aside0.mk (below_step (by repeat (first | (with_reducible first | exact HB.out | apply below_alloc | apply pw_below_drewN | apply below_drew1 | refine below_set ?_ GE431.out | refine below_set ?_ GE432.out) | exact HB.out)) hb); clear BK431; clear BK432; clear HB; have BK431 := n0_; have BK432 := n1_; have HB := n2_; clear n0_ n1_ n2_; (try clear hb); (try clear hb2); (try clear hk); (try clear hi)) | ((with_reducible refine gate_callee (f := 104) rfl ?_); refine goesL_ (some 27) rfl rfl Tryz.func104 (by kernel_rfl) rfl #[.int .i64 t436] rfl (by (try simp only [List.map_toArray, List.map_cons, List.map_nil]); first | done | rfl | (simp only [List.length_drop, List.length_take]; rfl)) ?_; (with_reducible refine (spec_l04Slower.calls kj6 t436 t437 _ A19.out).mono ?_); rintro e w34 ⟨rfl, hb⟩; refine ⟨_, rfl, ?_⟩; have n0_ := Aside0.mk (blk_below (g := gb431) (o := .cells #[.int .i64 a0_0, .int .i64 a0_1, .int .i8 a0_2, .int .i8 a0_3] 45 (0, 0)) (by (with_reducible repeat (first | refine blk_drewN ?_ _ | refine blk_drew ?_ | refine blk_alloc ?_ _)); exact BK431.out) hb); have n1_ := Aside0.mk (blk_below (g := gb432) (o := .cells #[.int .i64 a1_0, .int .i64 a1_1, .int .i64 a1_2] 47 (0, 0)) (by (with_reducible repeat (first | refine blk_drewN ?_ _ | refine blk_drew ?_ | refine blk_alloc ?_ _)); exact BK432.out) hb); have n2_ := Aside0.mk (below_step (by repeat (first | (with_reducible first | exact HB.out | apply below_alloc | apply pw_below_drewN | apply below_drew1 | refine below_set ?_ GE431.out | refine below_set ?_ GE432.out) | exact HB.out)) hb); clear BK431; clear BK432; clear HB; have BK431 := n0_; have BK432 := n1_; have HB := n2_; clear n0_ n1_ n2_; (try clear hb); (try clear hb2); (try clear hk); (try clear hi); have hcz35_0 : w34.cell? ⟨gb431, 0, none⟩ = some (.int .i64 a0_0) := (blk_cell BK431.out 0).trans rfl; have hcz35_1 : w34.cell? ⟨gb431, 1, none⟩ = some (.int .i64 a0_1) := (blk_cell BK431.out 1).trans rfl; have hcz35_2 : w34.cell? ⟨gb431, 2, none⟩ = some (.int .i8 a0_2) := (blk_cell BK431.out 2).trans rfl; have hcz35_3 : w34.cell? ⟨gb431, 3, none⟩ = some (.int .i8 a0_3) := (blk_cell BK431.out 3).trans rfl; have hfz35_0 := blk_frozen BK431.out 0; have hfz35_1 := blk_frozen BK431.out 1; have hfz35_2 := blk_frozen BK431.out 2; have hfz35_3 := blk_frozen BK431.out 3) | ((with_reducible refine gate_callee (f := 105) rfl ?_); refine goesL_ (some 41) rfl rfl Tryz.func105 (by kernel_rfl) rfl #[.int .i64 (wrap64 ((wrap64 (a0_2)) - a3)), .int .i64 (wrap64 (a0_3))] rfl (by (try simp only [List.map_toArray, List.map_cons, List.map_nil]); first | done | rfl | (simp only [List.length_drop, List.length_take]; rfl)) ?_; (with_reducible refine (spec_l04Down.calls (wrap64 ((wrap64 (a0_2)) - a3)) (wrap64 (a0_3)) t438 _ A26.out).mono ?_); rintro e w' ⟨rfl, ⟨nd, rfl⟩⟩; refine ⟨_, rfl, ?_⟩) | ((with_reducible refine gate_callee (f := 103) rfl ?_); refine goesL_ (some 44) rfl rfl Tryz.func103 (by kernel_rfl) rfl #[.int .i64 (wrap64 ((wrap64 (a2 + t437)) + t438)), .int .i64 0, .int .i64 36] rfl (by (try simp only [List.map_toArray, List.map_cons, List.map_nil]); first | done | rfl | (simp only [List.length_drop, List.length_take]; rfl)) ?_; (with_reducible refine (spec_l00In.calls (wrap64 ((wrap64 (a2 + t437)) + t438)) 0 36 true _ A27.out).mono ?_); rintro e w' ⟨rfl, ⟨nd, rfl⟩⟩; refine ⟨_, rfl, ?_⟩) | ((with_reducible refine gate_callee (f := 106) rfl ?_); refine goesL_ (some 47) rfl rfl Tryz.func106 (by kernel_rfl) rfl #[.int .i64 (wrap64 ((wrap64 (a2 + t437)) + t438))] rfl (by (try simp only [List.map_toArray, List.map_cons, List.map_nil]); first | done | rfl | (simp only [List.length_drop, List.length_take]; rfl)) ?_; (with_reducible refine (spec_l01Time.calls (wrap64 ((wrap64 (a2 + t437)) + t438)) t440 _ A29.out).mono ?_); rintro e w36 ⟨rfl, hb⟩; refine ⟨_, rfl, ?_⟩; have n0_ := Aside0.mk (blk_below (g := gb431) (o := .cells #[.int .i64 a0_0, .int .i64 a0_1, .int .i8 a0_2, .int .i8 a0_3] 45 (0, 0)) (by (with_reducible repeat (first | refine blk_drewN ?_ _ | refine blk_drew ?_ | refine blk_alloc ?_ _)); exact BK431.out) hb); have n1_ := Aside0.mk (blk_below (g := gb432) (o := .cells #[.int .i64 a1_0, .int .i64 a1_1, .int .i64 a1_2] 47 (0, 0)) (by (with_reducible repeat (first | refine blk_drewN ?_ _ | refine blk_drew ?_ | refine blk_alloc ?_ _)); exact BK432.out) hb); have n2_ := Aside0.mk (below_step (by repeat (first | (with_reducible first | exact HB.out | apply below_alloc | apply pw_below_drewN | apply below_drew1 | refine below_set ?_ GE431.out | refine below_set ?_ GE432.out) | exact HB.out)) hb); clear BK431; clear BK432; clear HB; have BK431 := n0_; have BK432 := n1_; have HB := n2_; clear n0_ n1_ n2_; (try clear hb); (try clear hb2); (try clear hk); (try clear hi)))
       go_ret2
       exact ⟨by first | rfl | (simp [errW_none, errW_some] <;> rfl) | (simp [*, errW_none, errW_some] <;> rfl), by repeat (first | (with_reducible first | exact HB.out | apply below_alloc | apply pw_below_drewN | apply below_drew1 | refine below_set ?_ GE431.out | refine below_set ?_ GE432.out) | exact HB.out)⟩
      ·replace c28 := Bool.eq_false_iff.mpr c28
       subst c28
       have H1 : (some (0, 3)) = some (r1, r2) := by rw [if_neg (show ¬ (false = true) by decide)] at H; exact H
       clear H
       have H := H1
       clear H1
       simp only [Option.some.injEq, Prod.mk.injEq] at H
       obtain ⟨rfl, rfl⟩ := H
       have hnb37 := NB431_432.out
       have hnc37 := NB432_431.out
       have hcz38_0 := blk_c BK431.out 0 rfl
       have hcz38_1 := blk_c BK431.out 1 rfl
       have hcz38_2 := blk_c BK431.out 2 rfl
       have hcz38_3 := blk_c BK431.out 3 rfl
       have hfz38_0 := blk_frozen BK431.out 0
       have hfz38_1 := blk_frozen BK431.out 1
       have hfz38_2 := blk_frozen BK431.out 2
       have hfz38_3 := blk_frozen BK431.out 3
       have hcz39_0 := blk_c BK432.out 0 rfl
       have hcz39_1 := blk_c BK432.out 1 rfl
       have hcz39_2 := blk_c BK432.out 2 rfl
       have hfz39_0 := blk_frozen BK432.out 0
       have hfz39_1 := blk_frozen BK432.out 1
       have hfz39_2 := blk_frozen BK432.out 2
       go_wp2_with (first | ((with_reducible refine gate_callee (f := 91) rfl ?_); refine goesL_ (some 26) rfl rfl Tryz.func91 (by kernel_rfl) rfl #[.agg #[.int .i64 a0_0, .int .i64 a0_1, .int .i8 a0_2, .int .i8 a0_3], .agg #[.int .i64 a1_0, .int .i64 a1_1, .int .i64 a1_2]] rfl (by (try simp only [List.map_toArray, List.map_cons, List.map_nil]); first | done | rfl | (simp only [List.length_drop, List.length_take]; rfl)) ?_; (with_reducible refine (spec_l04Strength.calls a0_0 a0_1 a0_2 a0_3 a1_0 a1_1 a1_2 t436 _ A18.out).mono ?_); rintro e w40 ⟨rfl, hb⟩; refine ⟨_, rfl, ?_⟩; have n0_ := Aside0.mk (blk_below BK431.out hb); have n1_ := Aside0.mk (blk_below BK432.out hb); have n2_ := Aside0.mk (below_step HB.out hb); clear BK431; clear BK432; clear HB; have BK431 := n0_; have BK432 := n1_; have HB := n2_; clear n0_ n1_ n2_; (try clear hb); (try clear hb2); (try clear hk); (try clear hi)) | ((with_reducible refine gate_callee (f := 104) rfl ?_); refine goesL_ (some 27) rfl rfl Tryz.func104 (by kernel_rfl) rfl #[.int .i64 t436] rfl (by (try simp only [List.map_toArray, List.map_cons, List.map_nil]); first | done | rfl | (simp only [List.length_drop, List.length_take]; rfl)) ?_; (with_reducible refine (spec_l04Slower.calls kj6 t436 t437 _ A19.out).mono ?_); rintro e w41 ⟨rfl, hb⟩; refine ⟨_, rfl, ?_⟩; have n0_ := Aside0.mk (blk_below BK431.out hb); have n1_ := Aside0.mk (blk_below BK432.out hb); have n2_ := Aside0.mk (below_step HB.out hb); clear BK431; clear BK432; clear HB; have BK431 := n0_; have BK432 := n1_; have HB := n2_; clear n0_ n1_ n2_; (try clear hb); (try clear hb2); (try clear hk); (try clear hi); have hcz42_0 := blk_c BK431.out 0 rfl; have hcz42_1 := blk_c BK431.out 1 rfl; have hcz42_2 := blk_c BK431.out 2 rfl; have hcz42_3 := blk_c BK431.out 3 rfl; have hfz42_0 := blk_frozen BK431.out 0; have hfz42_1 := blk_frozen BK431.out 1; have hfz42_2 := blk_frozen BK431.out 2; have hfz42_3 := blk_frozen BK431.out 3) | ((with_reducible refine gate_callee (f := 105) rfl ?_); refine goesL_ (some 41) rfl rfl Tryz.func105 (by kernel_rfl) rfl #[.int .i64 (wrap64 ((wrap64 (a0_2)) - a3)), .int .i64 (wrap64 (a0_3))] rfl (by (try simp only [List.map_toArray, List.map_cons, List.map_nil]); first | done | rfl | (simp only [List.length_drop, List.length_take]; rfl)) ?_; (with_reducible refine (spec_l04Down.calls (wrap64 ((wrap64 (a0_2)) - a3)) (wrap64 (a0_3)) t438 _ A26.out).mono ?_); rintro e w' ⟨rfl, ⟨nd, rfl⟩⟩; refine ⟨_, rfl, ?_⟩) | ((with_reducible refine gate_callee (f := 103) rfl ?_); refine goesL_ (some 44) rfl rfl Tryz.func103 (by kernel_rfl) rfl #[.int .i64 (wrap64 ((wrap64 (a2 + t437)) + t438)), .int .i64 0, .int .i64 36] rfl (by (try simp only [List.map_toArray, List.map_cons, List.map_nil]); first | done | rfl | (simp only [List.length_drop, List.length_take]; rfl)) ?_; (with_reducible refine (spec_l00In.calls (wrap64 ((wrap64 (a2 + t437)) + t438)) 0 36 false _ A27.out).mono ?_); rintro e w' ⟨rfl, ⟨nd, rfl⟩⟩; refine ⟨_, rfl, ?_⟩))
       go_ret2
       exact ⟨by first | rfl | (simp [errW_none, errW_some] <;> rfl) | (simp [*, errW_none, errW_some] <;> rfl), by repeat (first | (with_reducible first | exact HB.out | apply below_alloc | apply pw_below_drewN | apply below_drew1 | refine below_set ?_ GE431.out | refine below_set ?_ GE432.out) | exact HB.out)⟩
 ·replace c6 := Bool.eq_false_iff.mpr c6
  subst c6
  have H1 : (some (0, 1)) = some (r1, r2) := by rw [if_neg (show ¬ (false = true) by decide)] at H; exact H
  clear H
  have H := H1
  clear H1
  simp only [Option.some.injEq, Prod.mk.injEq] at H
  obtain ⟨rfl, rfl⟩ := H
  go_enter Tryz.func39, Tryz.ntmps39
  go_wp2_with (first | ((with_reducible refine gate_dst (N := 4) rfl ?_); refine box_event ?hg (N := 4) ?hd (cs := #[.int .i64 a0_0, .int .i64 a0_1, .int .i8 a0_2, .int .i8 a0_3]) (t := 45) ?hr ?_; (case hd => rfl); (case hg => rfl); (case hr => first | (go_simp; done) | (go_simp; rfl)); intro gb431 hg w43 hbox hb; have n0_ := Aside0.mk (below_step HB.out hb); have n1_ := Aside0.mk (hbox); have n2_ := Aside0.mk ((by rw [hg]; exact (below_size HB.out) : w.heap.size ≤ gb431)); have n3_ := Aside0.mk ((by rw [hg]; exact (below_size HB.out) : w.heap.size ≤ gb431)); clear HB; have HB := n0_; have BK431 := n1_; have GW431 := n2_; have GE431 := n3_; clear n0_ n1_ n2_ n3_; clear hb hbox hg) | ((with_reducible refine gate_dst (N := 5) rfl ?_); refine box_event ?hg (N := 5) ?hd (cs := #[.int .i64 a1_0, .int .i64 a1_1, .int .i64 a1_2]) (t := 47) ?hr ?_; (case hd => rfl); (case hg => rfl); (case hr => first | (go_simp; done) | (go_simp; rfl)); intro gb432 hg w44 hbox hb; have n0_ := Aside0.mk (blk_below BK431.out hb); have n1_ := Aside0.mk (below_step HB.out hb); have n2_ := Aside0.mk (hbox); have n3_ := Aside0.mk ((by rw [hg]; exact (below_size HB.out) : w.heap.size ≤ gb432)); have n4_ := Aside0.mk ((by rw [hg]; exact (below_size HB.out) : w.heap.size ≤ gb432)); have n5_ := Aside0.mk ((by rw [hg]; exact Nat.ne_of_lt (blk_lt BK431.out) : gb431 ≠ gb432)); have n6_ := Aside0.mk ((by rw [hg]; exact Nat.ne_of_gt (blk_lt BK431.out) : gb432 ≠ gb431)); clear BK431; clear HB; have BK431 := n0_; have HB := n1_; have BK432 := n2_; have GW432 := n3_; have GE432 := n4_; have NB431_432 := n5_; have NB432_431 := n6_; clear n0_ n1_ n2_ n3_ n4_ n5_ n6_; clear hb hbox hg; have hnb45 := NB431_432.out; have hnc45 := NB432_431.out; have hcz46_0 := blk_c BK431.out 0 rfl; have hcz46_1 := blk_c BK431.out 1 rfl; have hcz46_2 := blk_c BK431.out 2 rfl; have hcz46_3 := blk_c BK431.out 3 rfl; have hfz46_0 := blk_frozen BK431.out 0; have hfz46_1 := blk_frozen BK431.out 1; have hfz46_2 := blk_frozen BK431.out 2; have hfz46_3 := blk_frozen BK431.out 3; have hcz47_0 := blk_c BK432.out 0 rfl; have hcz47_1 := blk_c BK432.out 1 rfl; have hcz47_2 := blk_c BK432.out 2 rfl; have hfz47_0 := blk_frozen BK432.out 0; have hfz47_1 := blk_frozen BK432.out 1; have hfz47_2 := blk_frozen BK432.out 2) | ((with_reducible refine gate_callee (f := 100) rfl ?_); refine goesL_ (some 14) rfl rfl Tryz.func100 (by kernel_rfl) rfl #[.agg #[.int .i64 a0_0, .int .i64 a0_1, .int .i8 a0_2, .int .i8 a0_3], .agg #[.int .i64 a1_0, .int .i64 a1_1, .int .i64 a1_2]] rfl (by (try simp only [List.map_toArray, List.map_cons, List.map_nil]); first | done | rfl | (simp only [List.length_drop, List.length_take]; rfl)) ?_; (with_reducible refine (spec_l04Ok.calls a0_0 a0_1 a0_2 a0_3 a1_0 a1_1 a1_2 false _ A5.out).mono ?_); rintro e w48 ⟨rfl, hb⟩; refine ⟨_, rfl, ?_⟩; have n0_ := Aside0.mk (blk_below BK431.out hb); have n1_ := Aside0.mk (blk_below BK432.out hb); have n2_ := Aside0.mk (below_step HB.out hb); clear BK431; clear BK432; clear HB; have BK431 := n0_; have BK432 := n1_; have HB := n2_; clear n0_ n1_ n2_; (try clear hb); (try clear hb2); (try clear hk); (try clear hi)))
  go_ret2
  exact ⟨by first | rfl | (simp [errW_none, errW_some] <;> rfl) | (simp [*, errW_none, errW_some] <;> rfl), by repeat (first | (with_reducible first | exact HB.out | apply below_alloc | apply pw_below_drewN | apply below_drew1 | refine below_set ?_ GE431.out | refine below_set ?_ GE432.out) | exact HB.out)⟩

-- NOT PRINTED: function 5 (laws_FnBathActs)

end Go.Proofs.YtiehbagnebjadaaGreatDoor.Q
