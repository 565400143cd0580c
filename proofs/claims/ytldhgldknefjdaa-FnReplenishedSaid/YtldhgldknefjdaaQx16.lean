-- Written by wip/mk.py of this repository (a run of the kit's print with hand-proved leaves added); Lean checks it.
import Derived.Test.YtldhgldknefjdaaQx0
import Derived.Test.YtldhgldknefjdaaQx2
import Derived.Test.YtldhgldknefjdaaQx11
import Derived.Test.YtldhgldknefjdaaQx13
namespace Go.Proofs.Ytldhgldknefjdaa.Q
open Go.RowKit Go.Proofs.YtldhgldknefjdaaW.PrintWords Go.Proofs.YtldhgldknefjdaaW.PrintLast Go.Proofs.YtldhgldknefjdaaW.PrintMore
attribute [local go_sem] max2_int min2_int max_two min_two max_three min_three max_four min_four   -- for this text's walks alone
set_option linter.unusedVariables false
set_option linter.unusedSimpArgs false

/-! ### spec_SheetsFrom: function 45 -/
def spec_SheetsFrom.l0 : Nat → List Int → Int → Int → Int → Int → Int → Int → Int → Int → Int → Option (Int × Int)
  | 0, _, _, _, _, _, _, _, _, _, _ => none
  | k + 1, x2, x3, x11, x500000, x500001, x500002, x500003, x501000, x501001, x501002 => if x11 < (x2.length : Int) then (if 0 ≤ x11 then ((spec_l04Ready.f k x500000 x500001 x500002 x500003 x501000 x501001 x501002 (rd x2 x11) x3).bind fun bt503 => (if bt503.2.2.2 = true then (spec_SheetsFrom.l0 k x2 x3 (wrap64 (x11 + 1)) x500000 x500001 x500002 x500003 bt503.1 bt503.2.1 bt503.2.2.1) else (some (x11, 0)))) else (none)) else (some ((x2.length : Int), 0))
def spec_SheetsFrom.f (k : Nat) (a0_0 : Int) (a0_1 : Int) (a0_2 : Int) (a0_3 : Int) (a1_0 : Int) (a1_1 : Int) (a1_2 : Int) (l2 : List Int) (a3 : Int) : Option (Int × Int) := (spec_l04Areas.f k a0_0 a0_1 a0_2 a0_3 a1_0 a1_1 a1_2 l2 a3).bind fun t501 => (if t501 = 0 then (spec_SheetsFrom.l0 k l2 a3 0 a0_0 a0_1 a0_2 a0_3 a1_0 a1_1 a1_2) else (some (0, t501)))
theorem spec_SheetsFrom.mono_l : ∀ k, (∀ y0 y1 y2 y3 y4 y5 y6 y7 y8 y9, LeO (spec_SheetsFrom.l0 k y0 y1 y2 y3 y4 y5 y6 y7 y8 y9) (spec_SheetsFrom.l0 (k + 1) y0 y1 y2 y3 y4 y5 y6 y7 y8 y9))
  | 0 => fun _ _ _ _ _ _ _ _ _ _ r h => by simp [spec_SheetsFrom.l0] at h
  | k + 1 => by
    have ih0 := spec_SheetsFrom.mono_l k
    · intro y0 y1 y2 y3 y4 y5 y6 y7 y8 y9
      unfold spec_SheetsFrom.l0
      repeat' first
      | (with_reducible exact ih0 _ _ _ _ _ _ _ _ _ _)
      | (with_reducible exact spec_l04Areas.mono _ _ _ _ _ _ _ _ _ _)
      | (with_reducible exact spec_l04Ready.mono _ _ _ _ _ _ _ _ _ _)
      | (with_reducible exact LeO.refl _)
      | (with_reducible exact LeO.none _)
      | (with_reducible refine LeO.ite ?_ ?_)
      | (with_reducible refine LeO.bind ?_ (fun _ => ?_))
      | exact ih0 _ _ _ _ _ _ _ _ _ _
      | exact spec_l04Areas.mono _ _ _ _ _ _ _ _ _ _
      | exact spec_l04Ready.mono _ _ _ _ _ _ _ _ _ _
      | exact LeO.none _
      | refine LeO.ite ?_ ?_
      | refine LeO.bind ?_ (fun _ => ?_)
theorem spec_SheetsFrom.mono : ∀ a0 a1 a2 a3 a4 a5 a6 a7 a8 k, LeO (spec_SheetsFrom.f k a0 a1 a2 a3 a4 a5 a6 a7 a8) (spec_SheetsFrom.f (k + 1) a0 a1 a2 a3 a4 a5 a6 a7 a8) := by
  intro a0 a1 a2 a3 a4 a5 a6 a7 a8 k
  have ih0 := spec_SheetsFrom.mono_l k
  unfold spec_SheetsFrom.f
  repeat' first
      | (with_reducible exact ih0 _ _ _ _ _ _ _ _ _ _)
      | (with_reducible exact spec_l04Areas.mono _ _ _ _ _ _ _ _ _ _)
      | (with_reducible exact spec_l04Ready.mono _ _ _ _ _ _ _ _ _ _)
      | (with_reducible exact LeO.refl _)
      | (with_reducible exact LeO.none _)
      | (with_reducible refine LeO.ite ?_ ?_)
      | (with_reducible refine LeO.bind ?_ (fun _ => ?_))
      | exact ih0 _ _ _ _ _ _ _ _ _ _
      | exact spec_l04Areas.mono _ _ _ _ _ _ _ _ _ _
      | exact spec_l04Ready.mono _ _ _ _ _ _ _ _ _ _
      | exact LeO.none _
      | refine LeO.ite ?_ ?_
      | refine LeO.bind ?_ (fun _ => ?_)
def spec_SheetsFrom.T7 : Bool × List (List Nat × List Nat) := (true, [([], []), ([], []), ([], []), ([], []), ([2, 3], [2, 3]), ([4], [4]), ([], []), ([0, 1, 5, 6], [0, 1, 5, 6]), ([7], [7]), ([8], [8]), ([8], [8]), ([], []), ([11, 9, 7, 0, 1, 2, 3, 4, 5, 6, 7, 8, 9, 11], [9, 11]), ([10, 12, 0, 1, 2, 3, 4, 5, 6, 7, 8, 9, 10, 11, 12], [10])])
def spec_SheetsFrom.B7 : List Nat := [0, 0, 0, 0, 12, 28, 0, 127, 255, 511, 511, 0, 3071, 8191]
theorem spec_SheetsFrom.tab7 : rtab .any (opsOf Try.f45 7) = spec_SheetsFrom.T7 := by kernel_rfl
theorem spec_SheetsFrom.bits7 : waitsOk spec_SheetsFrom.T7.2 spec_SheetsFrom.B7 = true := by kernel_rfl
set_option maxHeartbeats 8000000 in
set_option maxRecDepth 100000 in
theorem spec_SheetsFrom.calls (k : Nat) (a0_0 : Int) (a0_1 : Int) (a0_2 : Int) (a0_3 : Int) (a1_0 : Int) (a1_1 : Int) (a1_2 : Int) (A2 : Option Addr) (c2 : Nat) (l2 : List Int) (a3 : Int) (r1 : Int) (r2 : Int) (w : World) (hr2 : Kd.C (Kd.int .i64) w A2 l2.length l2) (hc2 : l2.length ≤ c2) (h : spec_SheetsFrom.f k a0_0 a0_1 a0_2 a0_3 a1_0 a1_1 a1_2 l2 a3 = some (r1, r2)) :
    Calls Try.prog 45 #[.agg #[.int .i64 a0_0, .int .i64 a0_1, .int .i8 a0_2, .int .i8 a0_3], .agg #[.int .i64 a1_0, .int .i64 a1_1, .int .i64 a1_2], .slice A2 l2.length c2, .int .i64 a3] w fun e w' => e = .returned (.tuple #[.int .i64 r1, .int .i64 r2]) ∧ Below w.heap.size w w' := by
  have hu43 := Try.underlying43
  have hu45 := Try.underlying45
  have HR2 := Aside0.mk hr2
  have HC2 := Aside0.mk hc2
  clear hr2 hc2
  have HB := Aside0.mk (Below.refl w.heap.size w)
  have H : ((spec_l04Areas.f k a0_0 a0_1 a0_2 a0_3 a1_0 a1_1 a1_2 l2 a3).bind fun t501 => (if t501 = 0 then (spec_SheetsFrom.l0 k l2 a3 0 a0_0 a0_1 a0_2 a0_3 a1_0 a1_1 a1_2) else (some (0, t501)))) = some (r1, r2) := h
  clear h
  replace H := Option.bind_eq_some_iff.mp H
  obtain ⟨t501, A50, H⟩ := H
  replace H : (if t501 = 0 then (spec_SheetsFrom.l0 k l2 a3 0 a0_0 a0_1 a0_2 a0_3 a1_0 a1_1 a1_2) else (some (0, t501))) = some (r1, r2) := H
  have A5 := Aside0.mk A50
  clear A50
  by_cases c6 : t501 = 0
  · rw [if_pos c6] at H
    have c6b0 : (t501 == 0) = true := beq_iff_eq.mpr c6
    have c6b1 : (t501 != 0) = false := bne_eq_false_iff_eq.mpr c6
    clear c6
    have H' := Aside0.mk H
    clear H
    go_enter Try.func45, Try.ntmps45
    go_wp2_with (first | ((with_reducible refine gate_dst (N := 4) rfl ?_); refine box_event ?hg (N := 4) ?hd (cs := #[.int .i64 a0_0, .int .i64 a0_1, .int .i8 a0_2, .int .i8 a0_3]) (t := 43) ?hr ?_; (case hd => rfl); (case hg => rfl); (case hr => first | (go_simp; done) | (go_simp; rfl)); intro gb499 hg w7 hbox hb; have n0_ := Aside0.mk (below_step HB.out hb); have n1_ := Aside0.mk (hbox); have n2_ := Aside0.mk ((by rw [hg]; exact (below_size HB.out) : w.heap.size ≤ gb499)); have n3_ := Aside0.mk ((by rw [hg]; exact (below_size HB.out) : w.heap.size ≤ gb499)); clear HB; have HB := n0_; have BK499 := n1_; have GW499 := n2_; have GE499 := n3_; clear n0_ n1_ n2_ n3_; clear hb hbox hg) | ((with_reducible refine gate_dst (N := 5) rfl ?_); refine box_event ?hg (N := 5) ?hd (cs := #[.int .i64 a1_0, .int .i64 a1_1, .int .i64 a1_2]) (t := 45) ?hr ?_; (case hd => rfl); (case hg => rfl); (case hr => first | (go_simp; done) | (go_simp; rfl)); intro gb500 hg w8 hbox hb; have n0_ := Aside0.mk (blk_below BK499.out hb); have n1_ := Aside0.mk (below_step HB.out hb); have n2_ := Aside0.mk (hbox); have n3_ := Aside0.mk ((by rw [hg]; exact (below_size HB.out) : w.heap.size ≤ gb500)); have n4_ := Aside0.mk ((by rw [hg]; exact (below_size HB.out) : w.heap.size ≤ gb500)); have n5_ := Aside0.mk ((by rw [hg]; exact Nat.ne_of_lt (blk_lt BK499.out) : gb499 ≠ gb500)); have n6_ := Aside0.mk ((by rw [hg]; exact Nat.ne_of_gt (blk_lt BK499.out) : gb500 ≠ gb499)); clear BK499; clear HB; have BK499 := n0_; have HB := n1_; have BK500 := n2_; have GW500 := n3_; have GE500 := n4_; have NB499_500 := n5_; have NB500_499 := n6_; clear n0_ n1_ n2_ n3_ n4_ n5_ n6_; clear hb hbox hg; have hnb9 := NB499_500.out; have hnc9 := NB500_499.out; have hcz10_0 := blk_c BK499.out 0 rfl; have hcz10_1 := blk_c BK499.out 1 rfl; have hcz10_2 := blk_c BK499.out 2 rfl; have hcz10_3 := blk_c BK499.out 3 rfl; have hfz10_0 := blk_frozen BK499.out 0; have hfz10_1 := blk_frozen BK499.out 1; have hfz10_2 := blk_frozen BK499.out 2; have hfz10_3 := blk_frozen BK499.out 3; have hcz11_0 := blk_c BK500.out 0 rfl; have hcz11_1 := blk_c BK500.out 1 rfl; have hcz11_2 := blk_c BK500.out 2 rfl; have hfz11_0 := blk_frozen BK500.out 0; have hfz11_1 := blk_frozen BK500.out 1; have hfz11_2 := blk_frozen BK500.out 2) | ((with_reducible refine gate_callee (f := 78) rfl ?_); refine goesL_ (some 18) rfl rfl Try.func78 (by kernel_rfl) rfl #[.agg #[.int .i64 a0_0, .int .i64 a0_1, .int .i8 a0_2, .int .i8 a0_3], .agg #[.int .i64 a1_0, .int .i64 a1_1, .int .i64 a1_2], .slice A2 l2.length c2, .int .i64 a3] rfl (by (try simp only [List.map_toArray, List.map_cons, List.map_nil]); first | done | rfl | (simp only [List.length_drop, List.length_take]; rfl)) ?_; (with_reducible refine (spec_l04Areas.calls k a0_0 a0_1 a0_2 a0_3 a1_0 a1_1 a1_2 _ _ l2 a3 t501 _ ?side1 ?side2 A5.out).mono ?_); (case side1 => repeat (first | exact (Kd.C_below HR2.out HB.out) | (with_reducible refine Kd.C_alloc ?_ _) | (with_reducible refine Kd.C_drewN ?_ _) | (with_reducible refine Kd.C_drew ?_))); (case side2 => exact HC2.out); rintro e w12 ⟨rfl, hb⟩; refine ⟨_, rfl, ?_⟩; have n0_ := Aside0.mk (blk_below BK499.out hb); have n1_ := Aside0.mk (blk_below BK500.out hb); have n2_ := Aside0.mk (below_step HB.out hb); clear BK499; clear BK500; clear HB; have BK499 := n0_; have BK500 := n1_; have HB := n2_; clear n0_ n1_ n2_; (try clear hb); (try clear hb2); (try clear hk); (try clear hi)))
    go_loopg [11] k (fun kq v11 w' => ∃ (x11_1 : Int) (x501000_1 : Int) (x501001_1 : Int) (x501002_1 : Int), v11 = .int .i64 x11_1 ∧ Aside0 (spec_SheetsFrom.l0 kq l2 a3 x11_1 a0_0 a0_1 a0_2 a0_3 x501000_1 x501001_1 x501002_1 = some (r1, r2)) ∧ Aside0 (kq ≤ k) ∧ Aside0 (w'.heap[gb499]? = some (.cells #[.int .i64 a0_0, .int .i64 a0_1, .int .i8 a0_2, .int .i8 a0_3] 43 (0, 0))) ∧ Aside0 (w'.heap[gb500]? = some (.cells #[.int .i64 x501000_1, .int .i64 x501001_1, .int .i64 x501002_1] 45 (0, 0))) ∧ Aside0 (Below w.heap.size w w'))
    case atStart => exact ⟨(0), (a1_0), (a1_1), (a1_2), (by first | rfl | (simp; done) | (simp [*]; done)), H', ⟨Nat.le_refl _⟩, ⟨by (with_reducible repeat (first | refine blk_drewN ?_ _ | refine blk_drew ?_ | refine blk_alloc ?_ _)); exact BK499.out⟩, ⟨by (with_reducible repeat (first | refine blk_drewN ?_ _ | refine blk_drew ?_ | refine blk_alloc ?_ _)); exact BK500.out⟩, ⟨by repeat (first | (with_reducible first | exact HB.out | apply below_alloc | apply pw_below_drewN | apply below_drew1 | refine below_set ?_ GE499.out | refine below_set ?_ GE500.out) | exact HB.out)⟩⟩
    case round =>
      clear H'
      try clear c2
      try clear p2
      try clear c4
      try clear c6
      try clear c6b0
      try clear c6b1
      try clear c7
      try clear c9
      try clear hcz10_0
      try clear hcz10_1
      try clear hcz10_2
      try clear hcz10_3
      try clear hcz11_0
      try clear hcz11_1
      try clear hcz11_2
      try clear hfz10_0
      try clear hfz10_1
      try clear hfz10_2
      try clear hfz10_3
      try clear hfz11_0
      try clear hfz11_1
      try clear hfz11_2
      obtain ⟨x11_1, x501000_1, x501001_1, x501002_1, rfl, HA, HK1, BK499, BK500, HB⟩ := hrel
      cases gk with
      | zero => exact absurd HA.out (by simp [spec_SheetsFrom.l0])
      | succ k1 =>
        have H := HA.out
        clear HA
        simp only [spec_SheetsFrom.l0] at H
        by_cases c13 : x11_1 < (l2.length : Int)
        · rw [if_pos c13] at H
          have c13b0 : decide (x11_1 < (l2.length : Int)) = true := decide_eq_true c13
          clear c13
          by_cases c14 : 0 ≤ x11_1
          · rw [if_pos c14] at H
            have c14b0 : decide (0 ≤ x11_1) = true := decide_eq_true c14
            clear c14
            replace H := Option.bind_eq_some_iff.mp H
            obtain ⟨⟨t503, t504, t505, t506⟩, A150, H⟩ := H
            replace H : (if t506 = true then (spec_SheetsFrom.l0 k1 l2 a3 (wrap64 (x11_1 + 1)) a0_0 a0_1 a0_2 a0_3 t503 t504 t505) else (some (x11_1, 0))) = some (r1, r2) := H
            have A15 := Aside0.mk A150
            clear A150
            by_cases c16 : t506 = true
            · subst c16
              have H1 : (spec_SheetsFrom.l0 k1 l2 a3 (wrap64 (x11_1 + 1)) a0_0 a0_1 a0_2 a0_3 t503 t504 t505) = some (r1, r2) := by rw [if_pos rfl] at H; exact H
              clear H
              have H := H1
              clear H1
              have H' := Aside0.mk H
              clear H
              try go_wp2
              have n0_ := Aside0.mk (blk_drew BK499.out)
              have n1_ := Aside0.mk (blk_drew BK500.out)
              have n2_ := Aside0.mk (below_drew1 HB.out)
              clear BK499
              clear BK500
              clear HB
              have BK499 := n0_
              have BK500 := n1_
              have HB := n2_
              clear n0_ n1_ n2_
              have p502 : 0 ≤ (x11_1 : Int) := of_decide_eq_true (by first | (with_reducible assumption) | assumption)
              have q502 : x11_1 < (l2.length : Int) := of_decide_eq_true (by first | (with_reducible assumption) | assumption)
              obtain ⟨ad502, e502, hx502_0⟩ := Kd.at_int HR2.out x11_1 p502 q502
              have hw502_0 := hx502_0
              cases e502
              replace hx502_0 := (HB.out.cell (World.block_lt_of_cell? w _ hx502_0)).trans hx502_0
              replace p502 := eq_true p502
              replace q502 := eq_true q502
              refine start_ (n := 14) (S := fun w' => w'.cell? ⟨gb499, 0, none⟩ = some (.int .i64 a0_0) ∧ w'.cell? ⟨gb499, 1, none⟩ = some (.int .i64 a0_1) ∧ w'.cell? ⟨gb499, 2, none⟩ = some (.int .i8 a0_2) ∧ w'.cell? ⟨gb499, 3, none⟩ = some (.int .i8 a0_3) ∧ w'.cell? ⟨gb500, 0, none⟩ = some (.int .i64 x501000_1) ∧ w'.cell? ⟨gb500, 1, none⟩ = some (.int .i64 x501001_1) ∧ w'.cell? ⟨gb500, 2, none⟩ = some (.int .i64 x501002_1) ∧ w'.cell? (ad502.add (x11_1).toNat) = some (.int .i64 (rd l2 x11_1))) (ds := []) #[false, false, false, false, false, false, false, false, false, false, false, false, false, false] (by kernel_rfl) rfl rfl ⟨(blk_cell BK499.out 0).trans rfl, (blk_cell BK499.out 1).trans rfl, (blk_cell BK499.out 2).trans rfl, (blk_cell BK499.out 3).trans rfl, (blk_cell BK500.out 0).trans rfl, (blk_cell BK500.out 1).trans rfl, (blk_cell BK500.out 2).trans rfl, ((HB.out.cell (World.block_lt_of_cell? w _ hw502_0)).trans hw502_0)⟩ (fun hHeld => ?_); refine with_tabW spec_SheetsFrom.tab7 spec_SheetsFrom.bits7 (fun HT_ HW_ => ?_)
              generalize wr.drew = w17 at BK499 BK500 HB hx502_0 hHeld ⊢
              refine pure_ (i := 2) (N := some 31) (v := ?_) (a' := ?_) #[false, false, true, false, false, false, false, false, false, false, false, false, false, false] rfl rfl (any_of HT_.out (by kernel_rfl)) (fun _ _ _ h => h) (Or.inl ⟨by rfl, ?_⟩) ?_ ?_
              rotate_left
              · intro w'
                go_simp
                with_reducible rfl
              rotate_left
              · simp only [Act.put, List.setIfInBounds_toArray, List.set_cons_zero, List.set_cons_succ, i64_w, i32_w]
                rfl
              refine pure_ (i := 3) (N := some 32) (v := ?_) (a' := ?_) #[false, false, true, true, false, false, false, false, false, false, false, false, false, false] rfl rfl (any_of HT_.out (by kernel_rfl)) (fun _ _ _ h => h) (Or.inl ⟨by rfl, ?_⟩) ?_ ?_
              rotate_left
              · intro w'
                go_simp
                with_reducible rfl
              rotate_left
              · simp only [Act.put, List.setIfInBounds_toArray, List.set_cons_zero, List.set_cons_succ, i64_w, i32_w]
                rfl
              refine pure_ (i := 4) (N := some 33) (v := ?_) (a' := ?_) #[false, false, true, true, true, false, false, false, false, false, false, false, false, false] rfl rfl (any_of HT_.out (by kernel_rfl)) (fun _ _ _ h => h) (Or.inl ⟨by rfl, ?_⟩) ?_ ?_
              rotate_left
              · intro w'
                go_simp
                with_reducible rfl
              rotate_left
              · simp only [Act.put, List.setIfInBounds_toArray, List.set_cons_zero, List.set_cons_succ, i64_w, i32_w]
                rfl
              refine pure_ (i := 6) (N := some 35) (v := ?_) (a' := ?_) #[false, false, true, true, true, false, true, false, false, false, false, false, false, false] rfl rfl (any_of HT_.out (by kernel_rfl)) (fun _ _ _ h => h) (Or.inl ⟨by rfl, ?_⟩) ?_ ?_
              rotate_left
              · intro w'
                go_simp
                with_reducible rfl
              rotate_left
              · simp only [Act.put, List.setIfInBounds_toArray, List.set_cons_zero, List.set_cons_succ, i64_w, i32_w]
                rfl
              refine take_ (i := 0) (N := some 29) (v := ?_) (a' := ?_) #[true, false, true, true, true, false, true, false, false, false, false, false, false, false] rfl rfl (take_ofW HT_.out HW_.out (by kernel_rfl)) (fun _ _ _ h => h) (Or.inl ⟨by rfl, ?_⟩) hHeld ?_ ?_
              rotate_left
              · rintro w' ⟨s0, s1, s2, s3, s4, s5, s6, s7⟩
                go_simp
                with_reducible rfl
              rotate_left
              · simp only [Act.put, List.setIfInBounds_toArray, List.set_cons_zero, List.set_cons_succ, i64_w, i32_w]
                rfl
              refine take_ (i := 1) (N := some 30) (v := ?_) (a' := ?_) #[true, true, true, true, true, false, true, false, false, false, false, false, false, false] rfl rfl (take_ofW HT_.out HW_.out (by kernel_rfl)) (fun _ _ _ h => h) (Or.inl ⟨by rfl, ?_⟩) hHeld ?_ ?_
              rotate_left
              · rintro w' ⟨s0, s1, s2, s3, s4, s5, s6, s7⟩
                go_simp
                with_reducible rfl
              rotate_left
              · simp only [Act.put, List.setIfInBounds_toArray, List.set_cons_zero, List.set_cons_succ, i64_w, i32_w]
                rfl
              refine take_ (i := 5) (N := some 34) (v := ?_) (a' := ?_) #[true, true, true, true, true, true, true, false, false, false, false, false, false, false] rfl rfl (take_ofW HT_.out HW_.out (by kernel_rfl)) (fun _ _ _ h => h) (Or.inl ⟨by rfl, ?_⟩) hHeld ?_ ?_
              rotate_left
              · rintro w' ⟨s0, s1, s2, s3, s4, s5, s6, s7⟩
                go_simp
                with_reducible rfl
              rotate_left
              · simp only [Act.put, List.setIfInBounds_toArray, List.set_cons_zero, List.set_cons_succ, i64_w, i32_w]
                rfl
              refine join_ (σ := Nat) 2 #[true, true, true, true, true, true, true, true, true, true, true, true, false, false] (fun s_ => [(36, .tuple #[.agg #[.int .i64 t503, .int .i64 t504, .int .i64 t505], .bool true]), (12, .pointer (some ⟨s_, 0, none⟩)), (28, .tuple #[.agg #[.int .i64 t503, .int .i64 t504, .int .i64 t505], .bool true]), (37, .agg #[.int .i64 t503, .int .i64 t504, .int .i64 t505]), (38, .bool true)]) (fun s_ w' => (w'.cell? ⟨gb499, 0, none⟩ = some (.int .i64 a0_0) ∧ w'.cell? ⟨gb499, 1, none⟩ = some (.int .i64 a0_1) ∧ w'.cell? ⟨gb499, 2, none⟩ = some (.int .i8 a0_2) ∧ w'.cell? ⟨gb499, 3, none⟩ = some (.int .i8 a0_3) ∧ w'.cell? ⟨gb500, 0, none⟩ = some (.int .i64 x501000_1) ∧ w'.cell? ⟨gb500, 1, none⟩ = some (.int .i64 x501001_1) ∧ w'.cell? ⟨gb500, 2, none⟩ = some (.int .i64 x501002_1) ∧ w'.cell? (ad502.add (x11_1).toNat) = some (.int .i64 (rd l2 x11_1))) ∧ (w'.heap[gb499]? = some (.cells #[.int .i64 a0_0, .int .i64 a0_1, .int .i8 a0_2, .int .i8 a0_3] 43 (0, 0))) ∧ (w'.heap[gb500]? = some (.cells #[.int .i64 x501000_1, .int .i64 x501001_1, .int .i64 x501002_1] 45 (0, 0))) ∧ (w'.heap[s_]? = some (.cells #[.int .i64 0, .int .i64 0, .int .i64 0] 45 (0, 0))) ∧ (w.heap.size ≤ s_) ∧ (w.heap.size ≤ s_) ∧ (gb499 ≠ s_) ∧ (s_ ≠ gb499) ∧ (gb500 ≠ s_) ∧ (s_ ≠ gb500) ∧ (Below w.heap.size w w')) ?_ ?_
              rotate_left
              · intro hCont
                refine two_ (i := 7) (j := 11) (Ni := some 36) (Nj := some 12) #[true, true, true, true, true, true, true, true, false, false, false, false, false, false] #[true, true, true, true, true, true, true, false, false, false, false, true, false, false] rfl rfl rfl rfl (two_of HT_.out (by kernel_rfl)) (by decide) (by decide) (fun K hK => ?_) (fun K hK => ?_)
                · skip
                  refine goes_ Try.func74 (by kernel_rfl) rfl #[.agg #[.int .i64 a0_0, .int .i64 a0_1, .int .i8 a0_2, .int .i8 a0_3], .agg #[.int .i64 x501000_1, .int .i64 x501001_1, .int .i64 x501002_1], .int .i64 (rd l2 x11_1), .int .i64 a3] (by rfl) rfl rfl (by (try simp only [List.map_toArray, List.map_cons, List.map_nil]); first | done | rfl | (simp only [List.length_drop, List.length_take]; rfl)) ?_
                  with_reducible refine (spec_l04Ready.calls k1 a0_0 a0_1 a0_2 a0_3 x501000_1 x501001_1 x501002_1 (rd l2 x11_1) a3 t503 t504 t505 true _ A15.out).mono ?_
                  rintro e w18 ⟨rfl, hb⟩
                  refine ⟨_, rfl, ?_⟩
                  have n0_ := Aside0.mk (blk_below BK499.out hb)
                  have n1_ := Aside0.mk (blk_below BK500.out hb)
                  have n2_ := Aside0.mk (below_step HB.out hb)
                  clear BK499
                  clear BK500
                  clear HB
                  have BK499 := n0_
                  have BK500 := n1_
                  have HB := n2_
                  clear n0_ n1_ n2_
                  (try clear hb)
                  (try clear hb2)
                  (try clear hk)
                  (try clear hi)
                  refine hK.out _ _ ⟨(blk_cell BK499.out 0).trans rfl, (blk_cell BK499.out 1).trans rfl, (blk_cell BK499.out 2).trans rfl, (blk_cell BK499.out 3).trans rfl, (blk_cell BK500.out 0).trans rfl, (blk_cell BK500.out 1).trans rfl, (blk_cell BK500.out 2).trans rfl, ((HB.out.cell (World.block_lt_of_cell? w _ hw502_0)).trans hw502_0)⟩ (fun hHeld => ?_)
                  clear hK K
                  refine norm_ (a' := ?_) ?_ ?_
                  rotate_left
                  · show Act.put _ (some 36) _ = _
                    simp only [Act.put, List.setIfInBounds_toArray, List.set_cons_zero, List.set_cons_succ, i64_w, i32_w]
                    rfl
                  refine pure_ (i := 8) (N := some 28) (v := ?_) (a' := ?_) #[true, true, true, true, true, true, true, true, true, false, false, false, false, false] rfl rfl (any_of HT_.out (by kernel_rfl)) (fun _ _ _ h => h) (Or.inl ⟨by rfl, ?_⟩) ?_ ?_
                  rotate_left
                  · intro w'
                    go_simp
                    with_reducible rfl
                  rotate_left
                  · simp only [Act.put, List.setIfInBounds_toArray, List.set_cons_zero, List.set_cons_succ, i64_w, i32_w]
                    rfl
                  refine pure_ (i := 9) (N := some 37) (v := ?_) (a' := ?_) #[true, true, true, true, true, true, true, true, true, true, false, false, false, false] rfl rfl (any_of HT_.out (by kernel_rfl)) (fun _ _ _ h => h) (Or.inl ⟨by rfl, ?_⟩) ?_ ?_
                  rotate_left
                  · intro w'
                    go_simp
                    with_reducible rfl
                  rotate_left
                  · simp only [Act.put, List.setIfInBounds_toArray, List.set_cons_zero, List.set_cons_succ, i64_w, i32_w]
                    rfl
                  refine pure_ (i := 10) (N := some 38) (v := ?_) (a' := ?_) #[true, true, true, true, true, true, true, true, true, true, true, false, false, false] rfl rfl (any_of HT_.out (by kernel_rfl)) (fun _ _ _ h => h) (Or.inl ⟨by rfl, ?_⟩) ?_ ?_
                  rotate_left
                  · intro w'
                    go_simp
                    with_reducible rfl
                  rotate_left
                  · simp only [Act.put, List.setIfInBounds_toArray, List.set_cons_zero, List.set_cons_succ, i64_w, i32_w]
                    rfl
                  refine one_ (i := 11) (N := some 12) #[true, true, true, true, true, true, true, true, true, true, true, true, false, false] rfl rfl (one_of HT_.out (by kernel_rfl)) (by decide) (fun K hK => ?_)
                  refine box_step ?hg (N := 12) ?hd (cs := #[.int .i64 0, .int .i64 0, .int .i64 0]) (t := 45) ?hr ?_; (case hd => rfl); (case hg => rfl); (case hr => first | (go_simp; done) | (go_simp; rfl))
                  intro gb507 hg w19 hbox hb
                  have n0_ := Aside0.mk (blk_below BK499.out hb)
                  have n1_ := Aside0.mk (blk_below BK500.out hb)
                  have n2_ := Aside0.mk (below_step HB.out hb)
                  have n3_ := Aside0.mk (hbox)
                  have n4_ := Aside0.mk ((by rw [hg]; exact (below_size HB.out) : w.heap.size ≤ gb507))
                  have n5_ := Aside0.mk ((by rw [hg]; exact (below_size HB.out) : w.heap.size ≤ gb507))
                  have n6_ := Aside0.mk ((by rw [hg]; exact Nat.ne_of_lt (blk_lt BK499.out) : gb499 ≠ gb507))
                  have n7_ := Aside0.mk ((by rw [hg]; exact Nat.ne_of_gt (blk_lt BK499.out) : gb507 ≠ gb499))
                  have n8_ := Aside0.mk ((by rw [hg]; exact Nat.ne_of_lt (blk_lt BK500.out) : gb500 ≠ gb507))
                  have n9_ := Aside0.mk ((by rw [hg]; exact Nat.ne_of_gt (blk_lt BK500.out) : gb507 ≠ gb500))
                  clear BK499
                  clear BK500
                  clear HB
                  have BK499 := n0_
                  have BK500 := n1_
                  have HB := n2_
                  have BK507 := n3_
                  have GW507 := n4_
                  have GE507 := n5_
                  have NB499_507 := n6_
                  have NB507_499 := n7_
                  have NB500_507 := n8_
                  have NB507_500 := n9_
                  clear n0_ n1_ n2_ n3_ n4_ n5_ n6_ n7_ n8_ n9_
                  clear hb hbox hg
                  refine hK.out _ _ ⟨(blk_cell BK499.out 0).trans rfl, (blk_cell BK499.out 1).trans rfl, (blk_cell BK499.out 2).trans rfl, (blk_cell BK499.out 3).trans rfl, (blk_cell BK500.out 0).trans rfl, (blk_cell BK500.out 1).trans rfl, (blk_cell BK500.out 2).trans rfl, ((HB.out.cell (World.block_lt_of_cell? w _ hw502_0)).trans hw502_0)⟩ (fun hHeld => ?_)
                  clear hK K
                  refine norm_ (a' := ?_) ?_ ?_
                  rotate_left
                  · show Act.put _ (some 12) _ = _
                    simp only [Act.put, List.setIfInBounds_toArray, List.set_cons_zero, List.set_cons_succ, i64_w, i32_w]
                    rfl
                  exact norm_ (by simp only [putAll, Act.put, List.setIfInBounds_toArray, List.set_cons_zero, List.set_cons_succ]) (hCont (gb507) _ ⟨hHeld, BK499.out, BK500.out, BK507.out, GW507.out, GE507.out, NB499_507.out, NB507_499.out, NB500_507.out, NB507_500.out, HB.out⟩)
                · skip
                  refine box_step ?hg (N := 12) ?hd (cs := #[.int .i64 0, .int .i64 0, .int .i64 0]) (t := 45) ?hr ?_; (case hd => rfl); (case hg => rfl); (case hr => first | (go_simp; done) | (go_simp; rfl))
                  intro gb507 hg w18 hbox hb
                  have n0_ := Aside0.mk (blk_below BK499.out hb)
                  have n1_ := Aside0.mk (blk_below BK500.out hb)
                  have n2_ := Aside0.mk (below_step HB.out hb)
                  have n3_ := Aside0.mk (hbox)
                  have n4_ := Aside0.mk ((by rw [hg]; exact (below_size HB.out) : w.heap.size ≤ gb507))
                  have n5_ := Aside0.mk ((by rw [hg]; exact (below_size HB.out) : w.heap.size ≤ gb507))
                  have n6_ := Aside0.mk ((by rw [hg]; exact Nat.ne_of_lt (blk_lt BK499.out) : gb499 ≠ gb507))
                  have n7_ := Aside0.mk ((by rw [hg]; exact Nat.ne_of_gt (blk_lt BK499.out) : gb507 ≠ gb499))
                  have n8_ := Aside0.mk ((by rw [hg]; exact Nat.ne_of_lt (blk_lt BK500.out) : gb500 ≠ gb507))
                  have n9_ := Aside0.mk ((by rw [hg]; exact Nat.ne_of_gt (blk_lt BK500.out) : gb507 ≠ gb500))
                  clear BK499
                  clear BK500
                  clear HB
                  have BK499 := n0_
                  have BK500 := n1_
                  have HB := n2_
                  have BK507 := n3_
                  have GW507 := n4_
                  have GE507 := n5_
                  have NB499_507 := n6_
                  have NB507_499 := n7_
                  have NB500_507 := n8_
                  have NB507_500 := n9_
                  clear n0_ n1_ n2_ n3_ n4_ n5_ n6_ n7_ n8_ n9_
                  clear hb hbox hg
                  refine hK.out _ _ ⟨(blk_cell BK499.out 0).trans rfl, (blk_cell BK499.out 1).trans rfl, (blk_cell BK499.out 2).trans rfl, (blk_cell BK499.out 3).trans rfl, (blk_cell BK500.out 0).trans rfl, (blk_cell BK500.out 1).trans rfl, (blk_cell BK500.out 2).trans rfl, ((HB.out.cell (World.block_lt_of_cell? w _ hw502_0)).trans hw502_0)⟩ (fun hHeld => ?_)
                  clear hK K
                  refine norm_ (a' := ?_) ?_ ?_
                  rotate_left
                  · show Act.put _ (some 12) _ = _
                    simp only [Act.put, List.setIfInBounds_toArray, List.set_cons_zero, List.set_cons_succ, i64_w, i32_w]
                    rfl
                  refine one_ (i := 7) (N := some 36) #[true, true, true, true, true, true, true, true, false, false, false, true, false, false] rfl rfl (one_of HT_.out (by kernel_rfl)) (by decide) (fun K hK => ?_)
                  refine goes_ Try.func74 (by kernel_rfl) rfl #[.agg #[.int .i64 a0_0, .int .i64 a0_1, .int .i8 a0_2, .int .i8 a0_3], .agg #[.int .i64 x501000_1, .int .i64 x501001_1, .int .i64 x501002_1], .int .i64 (rd l2 x11_1), .int .i64 a3] (by rfl) rfl rfl (by (try simp only [List.map_toArray, List.map_cons, List.map_nil]); first | done | rfl | (simp only [List.length_drop, List.length_take]; rfl)) ?_
                  with_reducible refine (spec_l04Ready.calls k1 a0_0 a0_1 a0_2 a0_3 x501000_1 x501001_1 x501002_1 (rd l2 x11_1) a3 t503 t504 t505 true _ A15.out).mono ?_
                  rintro e w19 ⟨rfl, hb⟩
                  refine ⟨_, rfl, ?_⟩
                  have n0_ := Aside0.mk (blk_below BK499.out hb)
                  have n1_ := Aside0.mk (blk_below BK500.out hb)
                  have n2_ := Aside0.mk (blk_below BK507.out hb)
                  have n3_ := Aside0.mk (below_step HB.out hb)
                  clear BK499
                  clear BK500
                  clear BK507
                  clear HB
                  have BK499 := n0_
                  have BK500 := n1_
                  have BK507 := n2_
                  have HB := n3_
                  clear n0_ n1_ n2_ n3_
                  (try clear hb)
                  (try clear hb2)
                  (try clear hk)
                  (try clear hi)
                  refine hK.out _ _ ⟨(blk_cell BK499.out 0).trans rfl, (blk_cell BK499.out 1).trans rfl, (blk_cell BK499.out 2).trans rfl, (blk_cell BK499.out 3).trans rfl, (blk_cell BK500.out 0).trans rfl, (blk_cell BK500.out 1).trans rfl, (blk_cell BK500.out 2).trans rfl, ((HB.out.cell (World.block_lt_of_cell? w _ hw502_0)).trans hw502_0)⟩ (fun hHeld => ?_)
                  clear hK K
                  refine norm_ (a' := ?_) ?_ ?_
                  rotate_left
                  · show Act.put _ (some 36) _ = _
                    simp only [Act.put, List.setIfInBounds_toArray, List.set_cons_zero, List.set_cons_succ, i64_w, i32_w]
                    rfl
                  refine pure_ (i := 8) (N := some 28) (v := ?_) (a' := ?_) #[true, true, true, true, true, true, true, true, true, false, false, true, false, false] rfl rfl (any_of HT_.out (by kernel_rfl)) (fun _ _ _ h => h) (Or.inl ⟨by rfl, ?_⟩) ?_ ?_
                  rotate_left
                  · intro w'
                    go_simp
                    with_reducible rfl
                  rotate_left
                  · simp only [Act.put, List.setIfInBounds_toArray, List.set_cons_zero, List.set_cons_succ, i64_w, i32_w]
                    rfl
                  refine pure_ (i := 9) (N := some 37) (v := ?_) (a' := ?_) #[true, true, true, true, true, true, true, true, true, true, false, true, false, false] rfl rfl (any_of HT_.out (by kernel_rfl)) (fun _ _ _ h => h) (Or.inl ⟨by rfl, ?_⟩) ?_ ?_
                  rotate_left
                  · intro w'
                    go_simp
                    with_reducible rfl
                  rotate_left
                  · simp only [Act.put, List.setIfInBounds_toArray, List.set_cons_zero, List.set_cons_succ, i64_w, i32_w]
                    rfl
                  refine pure_ (i := 10) (N := some 38) (v := ?_) (a' := ?_) #[true, true, true, true, true, true, true, true, true, true, true, true, false, false] rfl rfl (any_of HT_.out (by kernel_rfl)) (fun _ _ _ h => h) (Or.inl ⟨by rfl, ?_⟩) ?_ ?_
                  rotate_left
                  · intro w'
                    go_simp
                    with_reducible rfl
                  rotate_left
                  · simp only [Act.put, List.setIfInBounds_toArray, List.set_cons_zero, List.set_cons_succ, i64_w, i32_w]
                    rfl
                  exact norm_ (by simp only [putAll, Act.put, List.setIfInBounds_toArray, List.set_cons_zero, List.set_cons_succ]) (hCont (gb507) _ ⟨hHeld, BK499.out, BK500.out, BK507.out, GW507.out, GE507.out, NB499_507.out, NB507_499.out, NB500_507.out, NB507_500.out, HB.out⟩)
              rintro gb507 w20 ⟨hS_, h0_, h1_, h2_, h3_, h4_, h5_, h6_, h7_, h8_, h9_⟩
              have n0_ : Aside0 (w20.heap[gb499]? = some (.cells #[.int .i64 a0_0, .int .i64 a0_1, .int .i8 a0_2, .int .i8 a0_3] 43 (0, 0))) := ⟨h0_⟩
              have n1_ : Aside0 (w20.heap[gb500]? = some (.cells #[.int .i64 x501000_1, .int .i64 x501001_1, .int .i64 x501002_1] 45 (0, 0))) := ⟨h1_⟩
              have n2_ : Aside0 (w20.heap[gb507]? = some (.cells #[.int .i64 0, .int .i64 0, .int .i64 0] 45 (0, 0))) := ⟨h2_⟩
              have n3_ : Aside0 (w.heap.size ≤ gb507) := ⟨h3_⟩
              have n4_ : Aside0 (w.heap.size ≤ gb507) := ⟨h4_⟩
              have n5_ : Aside0 (gb499 ≠ gb507) := ⟨h5_⟩
              have n6_ : Aside0 (gb507 ≠ gb499) := ⟨h6_⟩
              have n7_ : Aside0 (gb500 ≠ gb507) := ⟨h7_⟩
              have n8_ : Aside0 (gb507 ≠ gb500) := ⟨h8_⟩
              have n9_ : Aside0 (Below w.heap.size w w20) := ⟨h9_⟩
              clear BK499
              clear BK500
              clear HB
              clear h0_ h1_ h2_ h3_ h4_ h5_ h6_ h7_ h8_ h9_
              have BK499 := n0_
              have BK500 := n1_
              have BK507 := n2_
              have GW507 := n3_
              have GE507 := n4_
              have NB499_507 := n5_
              have NB507_499 := n6_
              have NB500_507 := n7_
              have NB507_500 := n8_
              have HB := n9_
              clear n0_ n1_ n2_ n3_ n4_ n5_ n6_ n7_ n8_ n9_
              have hHeld : w20.cell? ⟨gb499, 0, none⟩ = some (.int .i64 a0_0) ∧ w20.cell? ⟨gb499, 1, none⟩ = some (.int .i64 a0_1) ∧ w20.cell? ⟨gb499, 2, none⟩ = some (.int .i8 a0_2) ∧ w20.cell? ⟨gb499, 3, none⟩ = some (.int .i8 a0_3) ∧ w20.cell? ⟨gb500, 0, none⟩ = some (.int .i64 x501000_1) ∧ w20.cell? ⟨gb500, 1, none⟩ = some (.int .i64 x501001_1) ∧ w20.cell? ⟨gb500, 2, none⟩ = some (.int .i64 x501002_1) ∧ w20.cell? (ad502.add (x11_1).toNat) = some (.int .i64 (rd l2 x11_1)) := hS_
              refine norm_ (a' := ?_) ?_ ?_
              rotate_left
              · simp only [putAll, Act.put, List.setIfInBounds_toArray, List.set_cons_zero, List.set_cons_succ]
                rfl
              refine one_ (i := 12) (N := none) #[true, true, true, true, true, true, true, true, true, true, true, true, true, false] rfl rfl (one_of HT_.out (by kernel_rfl)) (by decide) (fun K hK => ?_)
              have hs21 : w20.cell? ⟨gb507, 0, none⟩ = some (.int .i64 0) := (blk_cell BK507.out 0).trans rfl
              have hfs21 := blk_frozen BK507.out 0
              have hns21_0 := NB499_507.out
              have hns21_1 := NB500_507.out
              have hms21_0 := NB507_499.out
              have hms21_1 := NB507_500.out
              have hs22 : w20.cell? ⟨gb507, 1, none⟩ = some (.int .i64 0) := (blk_cell BK507.out 1).trans rfl
              have hfs22 := blk_frozen BK507.out 1
              have hns22_0 := NB499_507.out
              have hns22_1 := NB500_507.out
              have hms22_0 := NB507_499.out
              have hms22_1 := NB507_500.out
              have hs23 : w20.cell? ⟨gb507, 2, none⟩ = some (.int .i64 0) := (blk_cell BK507.out 2).trans rfl
              have hfs23 := blk_frozen BK507.out 2
              have hns23_0 := NB499_507.out
              have hns23_1 := NB500_507.out
              have hms23_0 := NB507_499.out
              have hms23_1 := NB507_500.out
              refine skip_ (w1 := ?_) (by rfl) rfl ?_ ?_
              rotate_left
              · go_simp
                rfl
              refine hK.out _ _ ⟨((cell_far (p := ⟨gb507, _, none⟩) NB499_507.out _).trans (((cell_far (p := ⟨gb507, _, none⟩) NB499_507.out _).trans (((cell_far (p := ⟨gb507, _, none⟩) NB499_507.out _).trans (hHeld.1)))))), ((cell_far (p := ⟨gb507, _, none⟩) NB499_507.out _).trans (((cell_far (p := ⟨gb507, _, none⟩) NB499_507.out _).trans (((cell_far (p := ⟨gb507, _, none⟩) NB499_507.out _).trans (hHeld.2.1)))))), ((cell_far (p := ⟨gb507, _, none⟩) NB499_507.out _).trans (((cell_far (p := ⟨gb507, _, none⟩) NB499_507.out _).trans (((cell_far (p := ⟨gb507, _, none⟩) NB499_507.out _).trans (hHeld.2.2.1)))))), ((cell_far (p := ⟨gb507, _, none⟩) NB499_507.out _).trans (((cell_far (p := ⟨gb507, _, none⟩) NB499_507.out _).trans (((cell_far (p := ⟨gb507, _, none⟩) NB499_507.out _).trans (hHeld.2.2.2.1)))))), ((cell_far (p := ⟨gb507, _, none⟩) NB500_507.out _).trans (((cell_far (p := ⟨gb507, _, none⟩) NB500_507.out _).trans (((cell_far (p := ⟨gb507, _, none⟩) NB500_507.out _).trans (hHeld.2.2.2.2.1)))))), ((cell_far (p := ⟨gb507, _, none⟩) NB500_507.out _).trans (((cell_far (p := ⟨gb507, _, none⟩) NB500_507.out _).trans (((cell_far (p := ⟨gb507, _, none⟩) NB500_507.out _).trans (hHeld.2.2.2.2.2.1)))))), ((cell_far (p := ⟨gb507, _, none⟩) NB500_507.out _).trans (((cell_far (p := ⟨gb507, _, none⟩) NB500_507.out _).trans (((cell_far (p := ⟨gb507, _, none⟩) NB500_507.out _).trans (hHeld.2.2.2.2.2.2.1)))))), ((cell_far (p := ⟨gb507, _, none⟩) (by first | exact Nat.ne_of_lt (Nat.lt_of_lt_of_le (by have := World.block_lt_of_cell? _ _ hw502_0; first | rwa [add_block] at this | exact this) GW507.out) | (rw [add_block]; exact Nat.ne_of_lt (Nat.lt_of_lt_of_le (by have := World.block_lt_of_cell? _ _ hw502_0; first | rwa [add_block] at this | exact this) GW507.out)) | (show (Addr.add _ _).block ≠ _; rw [add_block]; exact Nat.ne_of_lt (Nat.lt_of_lt_of_le (by have := World.block_lt_of_cell? _ _ hw502_0; first | rwa [add_block] at this | exact this) GW507.out)) | (dsimp only; exact Nat.ne_of_lt (Nat.lt_of_lt_of_le (by have := World.block_lt_of_cell? _ _ hw502_0; first | rwa [add_block] at this | exact this) GW507.out))) _).trans (((cell_far (p := ⟨gb507, _, none⟩) (by first | exact Nat.ne_of_lt (Nat.lt_of_lt_of_le (by have := World.block_lt_of_cell? _ _ hw502_0; first | rwa [add_block] at this | exact this) GW507.out) | (rw [add_block]; exact Nat.ne_of_lt (Nat.lt_of_lt_of_le (by have := World.block_lt_of_cell? _ _ hw502_0; first | rwa [add_block] at this | exact this) GW507.out)) | (show (Addr.add _ _).block ≠ _; rw [add_block]; exact Nat.ne_of_lt (Nat.lt_of_lt_of_le (by have := World.block_lt_of_cell? _ _ hw502_0; first | rwa [add_block] at this | exact this) GW507.out)) | (dsimp only; exact Nat.ne_of_lt (Nat.lt_of_lt_of_le (by have := World.block_lt_of_cell? _ _ hw502_0; first | rwa [add_block] at this | exact this) GW507.out))) _).trans (((cell_far (p := ⟨gb507, _, none⟩) (by first | exact Nat.ne_of_lt (Nat.lt_of_lt_of_le (by have := World.block_lt_of_cell? _ _ hw502_0; first | rwa [add_block] at this | exact this) GW507.out) | (rw [add_block]; exact Nat.ne_of_lt (Nat.lt_of_lt_of_le (by have := World.block_lt_of_cell? _ _ hw502_0; first | rwa [add_block] at this | exact this) GW507.out)) | (show (Addr.add _ _).block ≠ _; rw [add_block]; exact Nat.ne_of_lt (Nat.lt_of_lt_of_le (by have := World.block_lt_of_cell? _ _ hw502_0; first | rwa [add_block] at this | exact this) GW507.out)) | (dsimp only; exact Nat.ne_of_lt (Nat.lt_of_lt_of_le (by have := World.block_lt_of_cell? _ _ hw502_0; first | rwa [add_block] at this | exact this) GW507.out))) _).trans (hHeld.2.2.2.2.2.2.2))))))⟩ (fun hHeld => ?_)
              clear hK K
              refine pure_ (i := 13) (N := some 13) (v := ?_) (a' := ?_) #[true, true, true, true, true, true, true, true, true, true, true, true, true, true] rfl rfl (any_of HT_.out (by kernel_rfl)) (fun _ _ _ h => h) (Or.inl ⟨by rfl, ?_⟩) ?_ ?_
              rotate_left
              · intro w'
                go_simp
                with_reducible rfl
              rotate_left
              · simp only [Act.put, List.setIfInBounds_toArray, List.set_cons_zero, List.set_cons_succ, i64_w, i32_w]
                rfl
              refine done_ (done_of HT_.out (by kernel_rfl)) ?_
              have hnb24 := NB507_499.out
              have hnc24 := NB499_507.out
              have hnb25 := NB507_500.out
              have hnc25 := NB500_507.out
              have hcz26_0 := blk_c BK507.out 0 rfl
              have hcz26_1 := blk_c BK507.out 1 rfl
              have hcz26_2 := blk_c BK507.out 2 rfl
              have hfz26_0 := blk_frozen BK507.out 0
              have hfz26_1 := blk_frozen BK507.out 1
              have hfz26_2 := blk_frozen BK507.out 2
              have hnb27 := NB500_499.out
              have hnc27 := NB499_500.out
              have hcz28_0 := blk_c BK500.out 0 rfl
              have hcz28_1 := blk_c BK500.out 1 rfl
              have hcz28_2 := blk_c BK500.out 2 rfl
              have hfz28_0 := blk_frozen BK500.out 0
              have hfz28_1 := blk_frozen BK500.out 1
              have hfz28_2 := blk_frozen BK500.out 2
              try go_wp2
              go_roundg k1
              case measure => have := HK1.out; omega
              case rel => exact ⟨(wrap64 (x11_1 + 1)), (t503), (t504), (t505), (by first | rfl | (simp; done) | (simp [*]; done)), H', ⟨by have := HK1.out; omega⟩, ⟨by (with_reducible repeat (first | refine blk_drewN ?_ _ | refine blk_drew ?_ | refine blk_alloc ?_ _)); refine blk_far ?_ NB499_500.out _; (with_reducible repeat (first | refine blk_drewN ?_ _ | refine blk_drew ?_ | refine blk_alloc ?_ _)); refine blk_far ?_ NB499_500.out _; (with_reducible repeat (first | refine blk_drewN ?_ _ | refine blk_drew ?_ | refine blk_alloc ?_ _)); refine blk_far ?_ NB499_500.out _; (with_reducible repeat (first | refine blk_drewN ?_ _ | refine blk_drew ?_ | refine blk_alloc ?_ _)); refine blk_far ?_ NB499_507.out _; (with_reducible repeat (first | refine blk_drewN ?_ _ | refine blk_drew ?_ | refine blk_alloc ?_ _)); refine blk_far ?_ NB499_507.out _; (with_reducible repeat (first | refine blk_drewN ?_ _ | refine blk_drew ?_ | refine blk_alloc ?_ _)); refine blk_far ?_ NB499_507.out _; (with_reducible repeat (first | refine blk_drewN ?_ _ | refine blk_drew ?_ | refine blk_alloc ?_ _)); exact BK499.out⟩, ⟨by (with_reducible repeat (first | refine blk_drewN ?_ _ | refine blk_drew ?_ | refine blk_alloc ?_ _)); refine blk_put (cs := #[.int .i64 t503, .int .i64 t504, .int .i64 x501002_1]) ?_ 2 _ rfl; (with_reducible repeat (first | refine blk_drewN ?_ _ | refine blk_drew ?_ | refine blk_alloc ?_ _)); refine blk_put (cs := #[.int .i64 t503, .int .i64 x501001_1, .int .i64 x501002_1]) ?_ 1 _ rfl; (with_reducible repeat (first | refine blk_drewN ?_ _ | refine blk_drew ?_ | refine blk_alloc ?_ _)); refine blk_put (cs := #[.int .i64 x501000_1, .int .i64 x501001_1, .int .i64 x501002_1]) ?_ 0 _ rfl; (with_reducible repeat (first | refine blk_drewN ?_ _ | refine blk_drew ?_ | refine blk_alloc ?_ _)); refine blk_far ?_ NB500_507.out _; (with_reducible repeat (first | refine blk_drewN ?_ _ | refine blk_drew ?_ | refine blk_alloc ?_ _)); refine blk_far ?_ NB500_507.out _; (with_reducible repeat (first | refine blk_drewN ?_ _ | refine blk_drew ?_ | refine blk_alloc ?_ _)); refine blk_far ?_ NB500_507.out _; (with_reducible repeat (first | refine blk_drewN ?_ _ | refine blk_drew ?_ | refine blk_alloc ?_ _)); exact BK500.out⟩, ⟨by repeat (first | (with_reducible first | exact HB.out | apply below_alloc | apply pw_below_drewN | apply below_drew1 | refine below_set ?_ GE499.out | refine below_set ?_ GE500.out | refine below_set ?_ GE507.out) | exact HB.out)⟩⟩
            · replace c16 := Bool.eq_false_iff.mpr c16
              subst c16
              have H1 : (some (x11_1, 0)) = some (r1, r2) := by rw [if_neg (show ¬ (false = true) by decide)] at H; exact H
              clear H
              have H := H1
              clear H1
              simp only [Option.some.injEq, Prod.mk.injEq] at H
              obtain ⟨rfl, rfl⟩ := H
              try go_wp2
              have n0_ := Aside0.mk (blk_drew BK499.out)
              have n1_ := Aside0.mk (blk_drew BK500.out)
              have n2_ := Aside0.mk (below_drew1 HB.out)
              clear BK499
              clear BK500
              clear HB
              have BK499 := n0_
              have BK500 := n1_
              have HB := n2_
              clear n0_ n1_ n2_
              have p502 : 0 ≤ (x11_1 : Int) := of_decide_eq_true (by first | (with_reducible assumption) | assumption)
              have q502 : x11_1 < (l2.length : Int) := of_decide_eq_true (by first | (with_reducible assumption) | assumption)
              obtain ⟨ad502, e502, hx502_0⟩ := Kd.at_int HR2.out x11_1 p502 q502
              have hw502_0 := hx502_0
              cases e502
              replace hx502_0 := (HB.out.cell (World.block_lt_of_cell? w _ hx502_0)).trans hx502_0
              replace p502 := eq_true p502
              replace q502 := eq_true q502
              refine start_ (n := 14) (S := fun w' => w'.cell? ⟨gb499, 0, none⟩ = some (.int .i64 a0_0) ∧ w'.cell? ⟨gb499, 1, none⟩ = some (.int .i64 a0_1) ∧ w'.cell? ⟨gb499, 2, none⟩ = some (.int .i8 a0_2) ∧ w'.cell? ⟨gb499, 3, none⟩ = some (.int .i8 a0_3) ∧ w'.cell? ⟨gb500, 0, none⟩ = some (.int .i64 x501000_1) ∧ w'.cell? ⟨gb500, 1, none⟩ = some (.int .i64 x501001_1) ∧ w'.cell? ⟨gb500, 2, none⟩ = some (.int .i64 x501002_1) ∧ w'.cell? (ad502.add (x11_1).toNat) = some (.int .i64 (rd l2 x11_1))) (ds := []) #[false, false, false, false, false, false, false, false, false, false, false, false, false, false] (by kernel_rfl) rfl rfl ⟨(blk_cell BK499.out 0).trans rfl, (blk_cell BK499.out 1).trans rfl, (blk_cell BK499.out 2).trans rfl, (blk_cell BK499.out 3).trans rfl, (blk_cell BK500.out 0).trans rfl, (blk_cell BK500.out 1).trans rfl, (blk_cell BK500.out 2).trans rfl, ((HB.out.cell (World.block_lt_of_cell? w _ hw502_0)).trans hw502_0)⟩ (fun hHeld => ?_); refine with_tabW spec_SheetsFrom.tab7 spec_SheetsFrom.bits7 (fun HT_ HW_ => ?_)
              generalize wr.drew = w29 at BK499 BK500 HB hx502_0 hHeld ⊢
              refine pure_ (i := 2) (N := some 31) (v := ?_) (a' := ?_) #[false, false, true, false, false, false, false, false, false, false, false, false, false, false] rfl rfl (any_of HT_.out (by kernel_rfl)) (fun _ _ _ h => h) (Or.inl ⟨by rfl, ?_⟩) ?_ ?_
              rotate_left
              · intro w'
                go_simp
                with_reducible rfl
              rotate_left
              · simp only [Act.put, List.setIfInBounds_toArray, List.set_cons_zero, List.set_cons_succ, i64_w, i32_w]
                rfl
              refine pure_ (i := 3) (N := some 32) (v := ?_) (a' := ?_) #[false, false, true, true, false, false, false, false, false, false, false, false, false, false] rfl rfl (any_of HT_.out (by kernel_rfl)) (fun _ _ _ h => h) (Or.inl ⟨by rfl, ?_⟩) ?_ ?_
              rotate_left
              · intro w'
                go_simp
                with_reducible rfl
              rotate_left
              · simp only [Act.put, List.setIfInBounds_toArray, List.set_cons_zero, List.set_cons_succ, i64_w, i32_w]
                rfl
              refine pure_ (i := 4) (N := some 33) (v := ?_) (a' := ?_) #[false, false, true, true, true, false, false, false, false, false, false, false, false, false] rfl rfl (any_of HT_.out (by kernel_rfl)) (fun _ _ _ h => h) (Or.inl ⟨by rfl, ?_⟩) ?_ ?_
              rotate_left
              · intro w'
                go_simp
                with_reducible rfl
              rotate_left
              · simp only [Act.put, List.setIfInBounds_toArray, List.set_cons_zero, List.set_cons_succ, i64_w, i32_w]
                rfl
              refine pure_ (i := 6) (N := some 35) (v := ?_) (a' := ?_) #[false, false, true, true, true, false, true, false, false, false, false, false, false, false] rfl rfl (any_of HT_.out (by kernel_rfl)) (fun _ _ _ h => h) (Or.inl ⟨by rfl, ?_⟩) ?_ ?_
              rotate_left
              · intro w'
                go_simp
                with_reducible rfl
              rotate_left
              · simp only [Act.put, List.setIfInBounds_toArray, List.set_cons_zero, List.set_cons_succ, i64_w, i32_w]
                rfl
              refine take_ (i := 0) (N := some 29) (v := ?_) (a' := ?_) #[true, false, true, true, true, false, true, false, false, false, false, false, false, false] rfl rfl (take_ofW HT_.out HW_.out (by kernel_rfl)) (fun _ _ _ h => h) (Or.inl ⟨by rfl, ?_⟩) hHeld ?_ ?_
              rotate_left
              · rintro w' ⟨s0, s1, s2, s3, s4, s5, s6, s7⟩
                go_simp
                with_reducible rfl
              rotate_left
              · simp only [Act.put, List.setIfInBounds_toArray, List.set_cons_zero, List.set_cons_succ, i64_w, i32_w]
                rfl
              refine take_ (i := 1) (N := some 30) (v := ?_) (a' := ?_) #[true, true, true, true, true, false, true, false, false, false, false, false, false, false] rfl rfl (take_ofW HT_.out HW_.out (by kernel_rfl)) (fun _ _ _ h => h) (Or.inl ⟨by rfl, ?_⟩) hHeld ?_ ?_
              rotate_left
              · rintro w' ⟨s0, s1, s2, s3, s4, s5, s6, s7⟩
                go_simp
                with_reducible rfl
              rotate_left
              · simp only [Act.put, List.setIfInBounds_toArray, List.set_cons_zero, List.set_cons_succ, i64_w, i32_w]
                rfl
              refine take_ (i := 5) (N := some 34) (v := ?_) (a' := ?_) #[true, true, true, true, true, true, true, false, false, false, false, false, false, false] rfl rfl (take_ofW HT_.out HW_.out (by kernel_rfl)) (fun _ _ _ h => h) (Or.inl ⟨by rfl, ?_⟩) hHeld ?_ ?_
              rotate_left
              · rintro w' ⟨s0, s1, s2, s3, s4, s5, s6, s7⟩
                go_simp
                with_reducible rfl
              rotate_left
              · simp only [Act.put, List.setIfInBounds_toArray, List.set_cons_zero, List.set_cons_succ, i64_w, i32_w]
                rfl
              refine join_ (σ := Nat) 2 #[true, true, true, true, true, true, true, true, true, true, true, true, false, false] (fun s_ => [(36, .tuple #[.agg #[.int .i64 t503, .int .i64 t504, .int .i64 t505], .bool false]), (12, .pointer (some ⟨s_, 0, none⟩)), (28, .tuple #[.agg #[.int .i64 t503, .int .i64 t504, .int .i64 t505], .bool false]), (37, .agg #[.int .i64 t503, .int .i64 t504, .int .i64 t505]), (38, .bool false)]) (fun s_ w' => (w'.cell? ⟨gb499, 0, none⟩ = some (.int .i64 a0_0) ∧ w'.cell? ⟨gb499, 1, none⟩ = some (.int .i64 a0_1) ∧ w'.cell? ⟨gb499, 2, none⟩ = some (.int .i8 a0_2) ∧ w'.cell? ⟨gb499, 3, none⟩ = some (.int .i8 a0_3) ∧ w'.cell? ⟨gb500, 0, none⟩ = some (.int .i64 x501000_1) ∧ w'.cell? ⟨gb500, 1, none⟩ = some (.int .i64 x501001_1) ∧ w'.cell? ⟨gb500, 2, none⟩ = some (.int .i64 x501002_1) ∧ w'.cell? (ad502.add (x11_1).toNat) = some (.int .i64 (rd l2 x11_1))) ∧ (w'.heap[gb499]? = some (.cells #[.int .i64 a0_0, .int .i64 a0_1, .int .i8 a0_2, .int .i8 a0_3] 43 (0, 0))) ∧ (w'.heap[gb500]? = some (.cells #[.int .i64 x501000_1, .int .i64 x501001_1, .int .i64 x501002_1] 45 (0, 0))) ∧ (w'.heap[s_]? = some (.cells #[.int .i64 0, .int .i64 0, .int .i64 0] 45 (0, 0))) ∧ (w.heap.size ≤ s_) ∧ (w.heap.size ≤ s_) ∧ (gb499 ≠ s_) ∧ (s_ ≠ gb499) ∧ (gb500 ≠ s_) ∧ (s_ ≠ gb500) ∧ (Below w.heap.size w w')) ?_ ?_
              rotate_left
              · intro hCont
                refine two_ (i := 7) (j := 11) (Ni := some 36) (Nj := some 12) #[true, true, true, true, true, true, true, true, false, false, false, false, false, false] #[true, true, true, true, true, true, true, false, false, false, false, true, false, false] rfl rfl rfl rfl (two_of HT_.out (by kernel_rfl)) (by decide) (by decide) (fun K hK => ?_) (fun K hK => ?_)
                · skip
                  refine goes_ Try.func74 (by kernel_rfl) rfl #[.agg #[.int .i64 a0_0, .int .i64 a0_1, .int .i8 a0_2, .int .i8 a0_3], .agg #[.int .i64 x501000_1, .int .i64 x501001_1, .int .i64 x501002_1], .int .i64 (rd l2 x11_1), .int .i64 a3] (by rfl) rfl rfl (by (try simp only [List.map_toArray, List.map_cons, List.map_nil]); first | done | rfl | (simp only [List.length_drop, List.length_take]; rfl)) ?_
                  with_reducible refine (spec_l04Ready.calls k1 a0_0 a0_1 a0_2 a0_3 x501000_1 x501001_1 x501002_1 (rd l2 x11_1) a3 t503 t504 t505 false _ A15.out).mono ?_
                  rintro e w30 ⟨rfl, hb⟩
                  refine ⟨_, rfl, ?_⟩
                  have n0_ := Aside0.mk (blk_below BK499.out hb)
                  have n1_ := Aside0.mk (blk_below BK500.out hb)
                  have n2_ := Aside0.mk (below_step HB.out hb)
                  clear BK499
                  clear BK500
                  clear HB
                  have BK499 := n0_
                  have BK500 := n1_
                  have HB := n2_
                  clear n0_ n1_ n2_
                  (try clear hb)
                  (try clear hb2)
                  (try clear hk)
                  (try clear hi)
                  refine hK.out _ _ ⟨(blk_cell BK499.out 0).trans rfl, (blk_cell BK499.out 1).trans rfl, (blk_cell BK499.out 2).trans rfl, (blk_cell BK499.out 3).trans rfl, (blk_cell BK500.out 0).trans rfl, (blk_cell BK500.out 1).trans rfl, (blk_cell BK500.out 2).trans rfl, ((HB.out.cell (World.block_lt_of_cell? w _ hw502_0)).trans hw502_0)⟩ (fun hHeld => ?_)
                  clear hK K
                  refine norm_ (a' := ?_) ?_ ?_
                  rotate_left
                  · show Act.put _ (some 36) _ = _
                    simp only [Act.put, List.setIfInBounds_toArray, List.set_cons_zero, List.set_cons_succ, i64_w, i32_w]
                    rfl
                  refine pure_ (i := 8) (N := some 28) (v := ?_) (a' := ?_) #[true, true, true, true, true, true, true, true, true, false, false, false, false, false] rfl rfl (any_of HT_.out (by kernel_rfl)) (fun _ _ _ h => h) (Or.inl ⟨by rfl, ?_⟩) ?_ ?_
                  rotate_left
                  · intro w'
                    go_simp
                    with_reducible rfl
                  rotate_left
                  · simp only [Act.put, List.setIfInBounds_toArray, List.set_cons_zero, List.set_cons_succ, i64_w, i32_w]
                    rfl
                  refine pure_ (i := 9) (N := some 37) (v := ?_) (a' := ?_) #[true, true, true, true, true, true, true, true, true, true, false, false, false, false] rfl rfl (any_of HT_.out (by kernel_rfl)) (fun _ _ _ h => h) (Or.inl ⟨by rfl, ?_⟩) ?_ ?_
                  rotate_left
                  · intro w'
                    go_simp
                    with_reducible rfl
                  rotate_left
                  · simp only [Act.put, List.setIfInBounds_toArray, List.set_cons_zero, List.set_cons_succ, i64_w, i32_w]
                    rfl
                  refine pure_ (i := 10) (N := some 38) (v := ?_) (a' := ?_) #[true, true, true, true, true, true, true, true, true, true, true, false, false, false] rfl rfl (any_of HT_.out (by kernel_rfl)) (fun _ _ _ h => h) (Or.inl ⟨by rfl, ?_⟩) ?_ ?_
                  rotate_left
                  · intro w'
                    go_simp
                    with_reducible rfl
                  rotate_left
                  · simp only [Act.put, List.setIfInBounds_toArray, List.set_cons_zero, List.set_cons_succ, i64_w, i32_w]
                    rfl
                  refine one_ (i := 11) (N := some 12) #[true, true, true, true, true, true, true, true, true, true, true, true, false, false] rfl rfl (one_of HT_.out (by kernel_rfl)) (by decide) (fun K hK => ?_)
                  refine box_step ?hg (N := 12) ?hd (cs := #[.int .i64 0, .int .i64 0, .int .i64 0]) (t := 45) ?hr ?_; (case hd => rfl); (case hg => rfl); (case hr => first | (go_simp; done) | (go_simp; rfl))
                  intro gb507 hg w31 hbox hb
                  have n0_ := Aside0.mk (blk_below BK499.out hb)
                  have n1_ := Aside0.mk (blk_below BK500.out hb)
                  have n2_ := Aside0.mk (below_step HB.out hb)
                  have n3_ := Aside0.mk (hbox)
                  have n4_ := Aside0.mk ((by rw [hg]; exact (below_size HB.out) : w.heap.size ≤ gb507))
                  have n5_ := Aside0.mk ((by rw [hg]; exact (below_size HB.out) : w.heap.size ≤ gb507))
                  have n6_ := Aside0.mk ((by rw [hg]; exact Nat.ne_of_lt (blk_lt BK499.out) : gb499 ≠ gb507))
                  have n7_ := Aside0.mk ((by rw [hg]; exact Nat.ne_of_gt (blk_lt BK499.out) : gb507 ≠ gb499))
                  have n8_ := Aside0.mk ((by rw [hg]; exact Nat.ne_of_lt (blk_lt BK500.out) : gb500 ≠ gb507))
                  have n9_ := Aside0.mk ((by rw [hg]; exact Nat.ne_of_gt (blk_lt BK500.out) : gb507 ≠ gb500))
                  clear BK499
                  clear BK500
                  clear HB
                  have BK499 := n0_
                  have BK500 := n1_
                  have HB := n2_
                  have BK507 := n3_
                  have GW507 := n4_
                  have GE507 := n5_
                  have NB499_507 := n6_
                  have NB507_499 := n7_
                  have NB500_507 := n8_
                  have NB507_500 := n9_
                  clear n0_ n1_ n2_ n3_ n4_ n5_ n6_ n7_ n8_ n9_
                  clear hb hbox hg
                  refine hK.out _ _ ⟨(blk_cell BK499.out 0).trans rfl, (blk_cell BK499.out 1).trans rfl, (blk_cell BK499.out 2).trans rfl, (blk_cell BK499.out 3).trans rfl, (blk_cell BK500.out 0).trans rfl, (blk_cell BK500.out 1).trans rfl, (blk_cell BK500.out 2).trans rfl, ((HB.out.cell (World.block_lt_of_cell? w _ hw502_0)).trans hw502_0)⟩ (fun hHeld => ?_)
                  clear hK K
                  refine norm_ (a' := ?_) ?_ ?_
                  rotate_left
                  · show Act.put _ (some 12) _ = _
                    simp only [Act.put, List.setIfInBounds_toArray, List.set_cons_zero, List.set_cons_succ, i64_w, i32_w]
                    rfl
                  exact norm_ (by simp only [putAll, Act.put, List.setIfInBounds_toArray, List.set_cons_zero, List.set_cons_succ]) (hCont (gb507) _ ⟨hHeld, BK499.out, BK500.out, BK507.out, GW507.out, GE507.out, NB499_507.out, NB507_499.out, NB500_507.out, NB507_500.out, HB.out⟩)
                · skip
                  refine box_step ?hg (N := 12) ?hd (cs := #[.int .i64 0, .int .i64 0, .int .i64 0]) (t := 45) ?hr ?_; (case hd => rfl); (case hg => rfl); (case hr => first | (go_simp; done) | (go_simp; rfl))
                  intro gb507 hg w30 hbox hb
                  have n0_ := Aside0.mk (blk_below BK499.out hb)
                  have n1_ := Aside0.mk (blk_below BK500.out hb)
                  have n2_ := Aside0.mk (below_step HB.out hb)
                  have n3_ := Aside0.mk (hbox)
                  have n4_ := Aside0.mk ((by rw [hg]; exact (below_size HB.out) : w.heap.size ≤ gb507))
                  have n5_ := Aside0.mk ((by rw [hg]; exact (below_size HB.out) : w.heap.size ≤ gb507))
                  have n6_ := Aside0.mk ((by rw [hg]; exact Nat.ne_of_lt (blk_lt BK499.out) : gb499 ≠ gb507))
                  have n7_ := Aside0.mk ((by rw [hg]; exact Nat.ne_of_gt (blk_lt BK499.out) : gb507 ≠ gb499))
                  have n8_ := Aside0.mk ((by rw [hg]; exact Nat.ne_of_lt (blk_lt BK500.out) : gb500 ≠ gb507))
                  have n9_ := Aside0.mk ((by rw [hg]; exact Nat.ne_of_gt (blk_lt BK500.out) : gb507 ≠ gb500))
                  clear BK499
                  clear BK500
                  clear HB
                  have BK499 := n0_
                  have BK500 := n1_
                  have HB := n2_
                  have BK507 := n3_
                  have GW507 := n4_
                  have GE507 := n5_
                  have NB499_507 := n6_
                  have NB507_499 := n7_
                  have NB500_507 := n8_
                  have NB507_500 := n9_
                  clear n0_ n1_ n2_ n3_ n4_ n5_ n6_ n7_ n8_ n9_
                  clear hb hbox hg
                  refine hK.out _ _ ⟨(blk_cell BK499.out 0).trans rfl, (blk_cell BK499.out 1).trans rfl, (blk_cell BK499.out 2).trans rfl, (blk_cell BK499.out 3).trans rfl, (blk_cell BK500.out 0).trans rfl, (blk_cell BK500.out 1).trans rfl, (blk_cell BK500.out 2).trans rfl, ((HB.out.cell (World.block_lt_of_cell? w _ hw502_0)).trans hw502_0)⟩ (fun hHeld => ?_)
                  clear hK K
                  refine norm_ (a' := ?_) ?_ ?_
                  rotate_left
                  · show Act.put _ (some 12) _ = _
                    simp only [Act.put, List.setIfInBounds_toArray, List.set_cons_zero, List.set_cons_succ, i64_w, i32_w]
                    rfl
                  refine one_ (i := 7) (N := some 36) #[true, true, true, true, true, true, true, true, false, false, false, true, false, false] rfl rfl (one_of HT_.out (by kernel_rfl)) (by decide) (fun K hK => ?_)
                  refine goes_ Try.func74 (by kernel_rfl) rfl #[.agg #[.int .i64 a0_0, .int .i64 a0_1, .int .i8 a0_2, .int .i8 a0_3], .agg #[.int .i64 x501000_1, .int .i64 x501001_1, .int .i64 x501002_1], .int .i64 (rd l2 x11_1), .int .i64 a3] (by rfl) rfl rfl (by (try simp only [List.map_toArray, List.map_cons, List.map_nil]); first | done | rfl | (simp only [List.length_drop, List.length_take]; rfl)) ?_
                  with_reducible refine (spec_l04Ready.calls k1 a0_0 a0_1 a0_2 a0_3 x501000_1 x501001_1 x501002_1 (rd l2 x11_1) a3 t503 t504 t505 false _ A15.out).mono ?_
                  rintro e w31 ⟨rfl, hb⟩
                  refine ⟨_, rfl, ?_⟩
                  have n0_ := Aside0.mk (blk_below BK499.out hb)
                  have n1_ := Aside0.mk (blk_below BK500.out hb)
                  have n2_ := Aside0.mk (blk_below BK507.out hb)
                  have n3_ := Aside0.mk (below_step HB.out hb)
                  clear BK499
                  clear BK500
                  clear BK507
                  clear HB
                  have BK499 := n0_
                  have BK500 := n1_
                  have BK507 := n2_
                  have HB := n3_
                  clear n0_ n1_ n2_ n3_
                  (try clear hb)
                  (try clear hb2)
                  (try clear hk)
                  (try clear hi)
                  refine hK.out _ _ ⟨(blk_cell BK499.out 0).trans rfl, (blk_cell BK499.out 1).trans rfl, (blk_cell BK499.out 2).trans rfl, (blk_cell BK499.out 3).trans rfl, (blk_cell BK500.out 0).trans rfl, (blk_cell BK500.out 1).trans rfl, (blk_cell BK500.out 2).trans rfl, ((HB.out.cell (World.block_lt_of_cell? w _ hw502_0)).trans hw502_0)⟩ (fun hHeld => ?_)
                  clear hK K
                  refine norm_ (a' := ?_) ?_ ?_
                  rotate_left
                  · show Act.put _ (some 36) _ = _
                    simp only [Act.put, List.setIfInBounds_toArray, List.set_cons_zero, List.set_cons_succ, i64_w, i32_w]
                    rfl
                  refine pure_ (i := 8) (N := some 28) (v := ?_) (a' := ?_) #[true, true, true, true, true, true, true, true, true, false, false, true, false, false] rfl rfl (any_of HT_.out (by kernel_rfl)) (fun _ _ _ h => h) (Or.inl ⟨by rfl, ?_⟩) ?_ ?_
                  rotate_left
                  · intro w'
                    go_simp
                    with_reducible rfl
                  rotate_left
                  · simp only [Act.put, List.setIfInBounds_toArray, List.set_cons_zero, List.set_cons_succ, i64_w, i32_w]
                    rfl
                  refine pure_ (i := 9) (N := some 37) (v := ?_) (a' := ?_) #[true, true, true, true, true, true, true, true, true, true, false, true, false, false] rfl rfl (any_of HT_.out (by kernel_rfl)) (fun _ _ _ h => h) (Or.inl ⟨by rfl, ?_⟩) ?_ ?_
                  rotate_left
                  · intro w'
                    go_simp
                    with_reducible rfl
                  rotate_left
                  · simp only [Act.put, List.setIfInBounds_toArray, List.set_cons_zero, List.set_cons_succ, i64_w, i32_w]
                    rfl
                  refine pure_ (i := 10) (N := some 38) (v := ?_) (a' := ?_) #[true, true, true, true, true, true, true, true, true, true, true, true, false, false] rfl rfl (any_of HT_.out (by kernel_rfl)) (fun _ _ _ h => h) (Or.inl ⟨by rfl, ?_⟩) ?_ ?_
                  rotate_left
                  · intro w'
                    go_simp
                    with_reducible rfl
                  rotate_left
                  · simp only [Act.put, List.setIfInBounds_toArray, List.set_cons_zero, List.set_cons_succ, i64_w, i32_w]
                    rfl
                  exact norm_ (by simp only [putAll, Act.put, List.setIfInBounds_toArray, List.set_cons_zero, List.set_cons_succ]) (hCont (gb507) _ ⟨hHeld, BK499.out, BK500.out, BK507.out, GW507.out, GE507.out, NB499_507.out, NB507_499.out, NB500_507.out, NB507_500.out, HB.out⟩)
              rintro gb507 w32 ⟨hS_, h0_, h1_, h2_, h3_, h4_, h5_, h6_, h7_, h8_, h9_⟩
              have n0_ : Aside0 (w32.heap[gb499]? = some (.cells #[.int .i64 a0_0, .int .i64 a0_1, .int .i8 a0_2, .int .i8 a0_3] 43 (0, 0))) := ⟨h0_⟩
              have n1_ : Aside0 (w32.heap[gb500]? = some (.cells #[.int .i64 x501000_1, .int .i64 x501001_1, .int .i64 x501002_1] 45 (0, 0))) := ⟨h1_⟩
              have n2_ : Aside0 (w32.heap[gb507]? = some (.cells #[.int .i64 0, .int .i64 0, .int .i64 0] 45 (0, 0))) := ⟨h2_⟩
              have n3_ : Aside0 (w.heap.size ≤ gb507) := ⟨h3_⟩
              have n4_ : Aside0 (w.heap.size ≤ gb507) := ⟨h4_⟩
              have n5_ : Aside0 (gb499 ≠ gb507) := ⟨h5_⟩
              have n6_ : Aside0 (gb507 ≠ gb499) := ⟨h6_⟩
              have n7_ : Aside0 (gb500 ≠ gb507) := ⟨h7_⟩
              have n8_ : Aside0 (gb507 ≠ gb500) := ⟨h8_⟩
              have n9_ : Aside0 (Below w.heap.size w w32) := ⟨h9_⟩
              clear BK499
              clear BK500
              clear HB
              clear h0_ h1_ h2_ h3_ h4_ h5_ h6_ h7_ h8_ h9_
              have BK499 := n0_
              have BK500 := n1_
              have BK507 := n2_
              have GW507 := n3_
              have GE507 := n4_
              have NB499_507 := n5_
              have NB507_499 := n6_
              have NB500_507 := n7_
              have NB507_500 := n8_
              have HB := n9_
              clear n0_ n1_ n2_ n3_ n4_ n5_ n6_ n7_ n8_ n9_
              have hHeld : w32.cell? ⟨gb499, 0, none⟩ = some (.int .i64 a0_0) ∧ w32.cell? ⟨gb499, 1, none⟩ = some (.int .i64 a0_1) ∧ w32.cell? ⟨gb499, 2, none⟩ = some (.int .i8 a0_2) ∧ w32.cell? ⟨gb499, 3, none⟩ = some (.int .i8 a0_3) ∧ w32.cell? ⟨gb500, 0, none⟩ = some (.int .i64 x501000_1) ∧ w32.cell? ⟨gb500, 1, none⟩ = some (.int .i64 x501001_1) ∧ w32.cell? ⟨gb500, 2, none⟩ = some (.int .i64 x501002_1) ∧ w32.cell? (ad502.add (x11_1).toNat) = some (.int .i64 (rd l2 x11_1)) := hS_
              refine norm_ (a' := ?_) ?_ ?_
              rotate_left
              · simp only [putAll, Act.put, List.setIfInBounds_toArray, List.set_cons_zero, List.set_cons_succ]
                rfl
              refine one_ (i := 12) (N := none) #[true, true, true, true, true, true, true, true, true, true, true, true, true, false] rfl rfl (one_of HT_.out (by kernel_rfl)) (by decide) (fun K hK => ?_)
              have hs33 : w32.cell? ⟨gb507, 0, none⟩ = some (.int .i64 0) := (blk_cell BK507.out 0).trans rfl
              have hfs33 := blk_frozen BK507.out 0
              have hns33_0 := NB499_507.out
              have hns33_1 := NB500_507.out
              have hms33_0 := NB507_499.out
              have hms33_1 := NB507_500.out
              have hs34 : w32.cell? ⟨gb507, 1, none⟩ = some (.int .i64 0) := (blk_cell BK507.out 1).trans rfl
              have hfs34 := blk_frozen BK507.out 1
              have hns34_0 := NB499_507.out
              have hns34_1 := NB500_507.out
              have hms34_0 := NB507_499.out
              have hms34_1 := NB507_500.out
              have hs35 : w32.cell? ⟨gb507, 2, none⟩ = some (.int .i64 0) := (blk_cell BK507.out 2).trans rfl
              have hfs35 := blk_frozen BK507.out 2
              have hns35_0 := NB499_507.out
              have hns35_1 := NB500_507.out
              have hms35_0 := NB507_499.out
              have hms35_1 := NB507_500.out
              refine skip_ (w1 := ?_) (by rfl) rfl ?_ ?_
              rotate_left
              · go_simp
                rfl
              refine hK.out _ _ ⟨((cell_far (p := ⟨gb507, _, none⟩) NB499_507.out _).trans (((cell_far (p := ⟨gb507, _, none⟩) NB499_507.out _).trans (((cell_far (p := ⟨gb507, _, none⟩) NB499_507.out _).trans (hHeld.1)))))), ((cell_far (p := ⟨gb507, _, none⟩) NB499_507.out _).trans (((cell_far (p := ⟨gb507, _, none⟩) NB499_507.out _).trans (((cell_far (p := ⟨gb507, _, none⟩) NB499_507.out _).trans (hHeld.2.1)))))), ((cell_far (p := ⟨gb507, _, none⟩) NB499_507.out _).trans (((cell_far (p := ⟨gb507, _, none⟩) NB499_507.out _).trans (((cell_far (p := ⟨gb507, _, none⟩) NB499_507.out _).trans (hHeld.2.2.1)))))), ((cell_far (p := ⟨gb507, _, none⟩) NB499_507.out _).trans (((cell_far (p := ⟨gb507, _, none⟩) NB499_507.out _).trans (((cell_far (p := ⟨gb507, _, none⟩) NB499_507.out _).trans (hHeld.2.2.2.1)))))), ((cell_far (p := ⟨gb507, _, none⟩) NB500_507.out _).trans (((cell_far (p := ⟨gb507, _, none⟩) NB500_507.out _).trans (((cell_far (p := ⟨gb507, _, none⟩) NB500_507.out _).trans (hHeld.2.2.2.2.1)))))), ((cell_far (p := ⟨gb507, _, none⟩) NB500_507.out _).trans (((cell_far (p := ⟨gb507, _, none⟩) NB500_507.out _).trans (((cell_far (p := ⟨gb507, _, none⟩) NB500_507.out _).trans (hHeld.2.2.2.2.2.1)))))), ((cell_far (p := ⟨gb507, _, none⟩) NB500_507.out _).trans (((cell_far (p := ⟨gb507, _, none⟩) NB500_507.out _).trans (((cell_far (p := ⟨gb507, _, none⟩) NB500_507.out _).trans (hHeld.2.2.2.2.2.2.1)))))), ((cell_far (p := ⟨gb507, _, none⟩) (by first | exact Nat.ne_of_lt (Nat.lt_of_lt_of_le (by have := World.block_lt_of_cell? _ _ hw502_0; first | rwa [add_block] at this | exact this) GW507.out) | (rw [add_block]; exact Nat.ne_of_lt (Nat.lt_of_lt_of_le (by have := World.block_lt_of_cell? _ _ hw502_0; first | rwa [add_block] at this | exact this) GW507.out)) | (show (Addr.add _ _).block ≠ _; rw [add_block]; exact Nat.ne_of_lt (Nat.lt_of_lt_of_le (by have := World.block_lt_of_cell? _ _ hw502_0; first | rwa [add_block] at this | exact this) GW507.out)) | (dsimp only; exact Nat.ne_of_lt (Nat.lt_of_lt_of_le (by have := World.block_lt_of_cell? _ _ hw502_0; first | rwa [add_block] at this | exact this) GW507.out))) _).trans (((cell_far (p := ⟨gb507, _, none⟩) (by first | exact Nat.ne_of_lt (Nat.lt_of_lt_of_le (by have := World.block_lt_of_cell? _ _ hw502_0; first | rwa [add_block] at this | exact this) GW507.out) | (rw [add_block]; exact Nat.ne_of_lt (Nat.lt_of_lt_of_le (by have := World.block_lt_of_cell? _ _ hw502_0; first | rwa [add_block] at this | exact this) GW507.out)) | (show (Addr.add _ _).block ≠ _; rw [add_block]; exact Nat.ne_of_lt (Nat.lt_of_lt_of_le (by have := World.block_lt_of_cell? _ _ hw502_0; first | rwa [add_block] at this | exact this) GW507.out)) | (dsimp only; exact Nat.ne_of_lt (Nat.lt_of_lt_of_le (by have := World.block_lt_of_cell? _ _ hw502_0; first | rwa [add_block] at this | exact this) GW507.out))) _).trans (((cell_far (p := ⟨gb507, _, none⟩) (by first | exact Nat.ne_of_lt (Nat.lt_of_lt_of_le (by have := World.block_lt_of_cell? _ _ hw502_0; first | rwa [add_block] at this | exact this) GW507.out) | (rw [add_block]; exact Nat.ne_of_lt (Nat.lt_of_lt_of_le (by have := World.block_lt_of_cell? _ _ hw502_0; first | rwa [add_block] at this | exact this) GW507.out)) | (show (Addr.add _ _).block ≠ _; rw [add_block]; exact Nat.ne_of_lt (Nat.lt_of_lt_of_le (by have := World.block_lt_of_cell? _ _ hw502_0; first | rwa [add_block] at this | exact this) GW507.out)) | (dsimp only; exact Nat.ne_of_lt (Nat.lt_of_lt_of_le (by have := World.block_lt_of_cell? _ _ hw502_0; first | rwa [add_block] at this | exact this) GW507.out))) _).trans (hHeld.2.2.2.2.2.2.2))))))⟩ (fun hHeld => ?_)
              clear hK K
              refine pure_ (i := 13) (N := some 13) (v := ?_) (a' := ?_) #[true, true, true, true, true, true, true, true, true, true, true, true, true, true] rfl rfl (any_of HT_.out (by kernel_rfl)) (fun _ _ _ h => h) (Or.inl ⟨by rfl, ?_⟩) ?_ ?_
              rotate_left
              · intro w'
                go_simp
                with_reducible rfl
              rotate_left
              · simp only [Act.put, List.setIfInBounds_toArray, List.set_cons_zero, List.set_cons_succ, i64_w, i32_w]
                rfl
              refine done_ (done_of HT_.out (by kernel_rfl)) ?_
              try go_wp2
              go_ret2
              exact ⟨by first | rfl | (simp [errW_none, errW_some] <;> rfl) | (simp [*, errW_none, errW_some] <;> rfl), by repeat (first | (with_reducible first | exact HB.out | apply below_alloc | apply pw_below_drewN | apply below_drew1 | refine below_set ?_ GE499.out | refine below_set ?_ GE500.out | refine below_set ?_ GE507.out) | exact HB.out)⟩
          · rw [if_neg c14] at H
            exact absurd H (by simp)
        · rw [if_neg c13] at H
          have c13b0 : decide (x11_1 < (l2.length : Int)) = false := decide_eq_false c13
          clear c13
          simp only [Option.some.injEq, Prod.mk.injEq] at H
          obtain ⟨rfl, rfl⟩ := H
          go_wp2
          go_ret2
          exact ⟨by first | rfl | (simp [errW_none, errW_some] <;> rfl) | (simp [*, errW_none, errW_some] <;> rfl), by repeat (first | (with_reducible first | exact HB.out | apply below_alloc | apply pw_below_drewN | apply below_drew1 | refine below_set ?_ GE499.out | refine below_set ?_ GE500.out) | exact HB.out)⟩
  · rw [if_neg c6] at H
    have c6b0 : (t501 == 0) = false := beq_eq_false_iff_ne.mpr c6
    have c6b1 : (t501 != 0) = true := bne_iff_ne.mpr c6
    simp only [Option.some.injEq, Prod.mk.injEq] at H
    obtain ⟨rfl, rfl⟩ := H
    go_enter Try.func45, Try.ntmps45
    go_wp2_with (first | ((with_reducible refine gate_dst (N := 4) rfl ?_); refine box_event ?hg (N := 4) ?hd (cs := #[.int .i64 a0_0, .int .i64 a0_1, .int .i8 a0_2, .int .i8 a0_3]) (t := 43) ?hr ?_; (case hd => rfl); (case hg => rfl); (case hr => first | (go_simp; done) | (go_simp; rfl)); intro gb499 hg w36 hbox hb; have n0_ := Aside0.mk (below_step HB.out hb); have n1_ := Aside0.mk (hbox); have n2_ := Aside0.mk ((by rw [hg]; exact (below_size HB.out) : w.heap.size ≤ gb499)); have n3_ := Aside0.mk ((by rw [hg]; exact (below_size HB.out) : w.heap.size ≤ gb499)); clear HB; have HB := n0_; have BK499 := n1_; have GW499 := n2_; have GE499 := n3_; clear n0_ n1_ n2_ n3_; clear hb hbox hg) | ((with_reducible refine gate_dst (N := 5) rfl ?_); refine box_event ?hg (N := 5) ?hd (cs := #[.int .i64 a1_0, .int .i64 a1_1, .int .i64 a1_2]) (t := 45) ?hr ?_; (case hd => rfl); (case hg => rfl); (case hr => first | (go_simp; done) | (go_simp; rfl)); intro gb500 hg w37 hbox hb; have n0_ := Aside0.mk (blk_below BK499.out hb); have n1_ := Aside0.mk (below_step HB.out hb); have n2_ := Aside0.mk (hbox); have n3_ := Aside0.mk ((by rw [hg]; exact (below_size HB.out) : w.heap.size ≤ gb500)); have n4_ := Aside0.mk ((by rw [hg]; exact (below_size HB.out) : w.heap.size ≤ gb500)); have n5_ := Aside0.mk ((by rw [hg]; exact Nat.ne_of_lt (blk_lt BK499.out) : gb499 ≠ gb500)); have n6_ := Aside0.mk ((by rw [hg]; exact Nat.ne_of_gt (blk_lt BK499.out) : gb500 ≠ gb499)); clear BK499; clear HB; have BK499 := n0_; have HB := n1_; have BK500 := n2_; have GW500 := n3_; have GE500 := n4_; have NB499_500 := n5_; have NB500_499 := n6_; clear n0_ n1_ n2_ n3_ n4_ n5_ n6_; clear hb hbox hg; have hnb38 := NB499_500.out; have hnc38 := NB500_499.out; have hcz39_0 := blk_c BK499.out 0 rfl; have hcz39_1 := blk_c BK499.out 1 rfl; have hcz39_2 := blk_c BK499.out 2 rfl; have hcz39_3 := blk_c BK499.out 3 rfl; have hfz39_0 := blk_frozen BK499.out 0; have hfz39_1 := blk_frozen BK499.out 1; have hfz39_2 := blk_frozen BK499.out 2; have hfz39_3 := blk_frozen BK499.out 3; have hcz40_0 := blk_c BK500.out 0 rfl; have hcz40_1 := blk_c BK500.out 1 rfl; have hcz40_2 := blk_c BK500.out 2 rfl; have hfz40_0 := blk_frozen BK500.out 0; have hfz40_1 := blk_frozen BK500.out 1; have hfz40_2 := blk_frozen BK500.out 2) | ((with_reducible refine gate_callee (f := 78) rfl ?_); refine goesL_ (some 18) rfl rfl Try.func78 (by kernel_rfl) rfl #[.agg #[.int .i64 a0_0, .int .i64 a0_1, .int .i8 a0_2, .int .i8 a0_3], .agg #[.int .i64 a1_0, .int .i64 a1_1, .int .i64 a1_2], .slice A2 l2.length c2, .int .i64 a3] rfl (by (try simp only [List.map_toArray, List.map_cons, List.map_nil]); first | done | rfl | (simp only [List.length_drop, List.length_take]; rfl)) ?_; (with_reducible refine (spec_l04Areas.calls k a0_0 a0_1 a0_2 a0_3 a1_0 a1_1 a1_2 _ _ l2 a3 t501 _ ?side1 ?side2 A5.out).mono ?_); (case side1 => repeat (first | exact (Kd.C_below HR2.out HB.out) | (with_reducible refine Kd.C_alloc ?_ _) | (with_reducible refine Kd.C_drewN ?_ _) | (with_reducible refine Kd.C_drew ?_))); (case side2 => exact HC2.out); rintro e w41 ⟨rfl, hb⟩; refine ⟨_, rfl, ?_⟩; have n0_ := Aside0.mk (blk_below BK499.out hb); have n1_ := Aside0.mk (blk_below BK500.out hb); have n2_ := Aside0.mk (below_step HB.out hb); clear BK499; clear BK500; clear HB; have BK499 := n0_; have BK500 := n1_; have HB := n2_; clear n0_ n1_ n2_; (try clear hb); (try clear hb2); (try clear hk); (try clear hi)))
    go_ret2
    exact ⟨by first | rfl | (simp [errW_none, errW_some] <;> rfl) | (simp [*, errW_none, errW_some] <;> rfl), by repeat (first | (with_reducible first | exact HB.out | apply below_alloc | apply pw_below_drewN | apply below_drew1 | refine below_set ?_ GE499.out | refine below_set ?_ GE500.out) | exact HB.out)⟩

end Go.Proofs.Ytldhgldknefjdaa.Q
