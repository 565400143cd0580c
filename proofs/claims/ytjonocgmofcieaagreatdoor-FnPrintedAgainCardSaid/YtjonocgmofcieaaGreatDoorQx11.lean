-- Written by wip/mk.py of this repository (a run of the kit's print with hand-proved leaves added); Lean checks it.
import Derived.Test.YtjonocgmofcieaaGreatDoorQx0
import Derived.Test.YtjonocgmofcieaaGreatDoorQx3
import Derived.Test.YtjonocgmofcieaaGreatDoorQx10
namespace Go.Proofs.YtjonocgmofcieaaGreatDoor.Q
open Go.RowKit Go.Proofs.YtjonocgmofcieaaGreatDoorW.PrintWords Go.Proofs.YtjonocgmofcieaaGreatDoorW.PrintLast Go.Proofs.YtjonocgmofcieaaGreatDoorW.PrintMore
attribute [local go_sem] max2_int min2_int max_two min_two max_three min_three max_four min_four   -- for this text's walks alone
set_option linter.unusedVariables false
set_option linter.unusedSimpArgs false

/-! ### impl_curveText: function 77 -/
def impl_curveText.l0 : Nat → List ByteArray → List (S102) → Int → Int → Option (ByteArray)
 | 0, _, _, _, _ => none
 | k + 1, x3, x7, x8, x9 => if x9 < x8 then (if 0 ≤ x9 then (if x9 < (x7.length : Int) then ((impl_decimal.f (wrap64 ((rd_T102 x7 x9).f0))).bind fun t252 => (if t252.size + 1 ≤ 9223372036854775807 then ((impl_decimal.f (wrap64 ((rd_T102 x7 x9).f1))).bind fun t253 => (if (t252 ++ (⟨#[58]⟩ : ByteArray)).size + t253.size ≤ 9223372036854775807 then (if x3.length < 8796093022208 then (impl_curveText.l0 k (x3 ++ [(t252 ++ (⟨#[58]⟩ : ByteArray)) ++ t253]) x7 x8 (wrap64 (x9 + 1))) else (none)) else (none))) else (none))) else (none)) else (none)) else ((strings_Join.f x3 (⟨#[32]⟩ : ByteArray)).bind fun t257 => (some t257))
def impl_curveText.f (k : Nat) (l0 : List (S102)) : Option (ByteArray) := impl_curveText.l0 k (([] : List ByteArray)) l0 (l0.length : Int) 0
theorem impl_curveText.mono_l : ∀ k, (∀ y0 y1 y2 y3, LeO (impl_curveText.l0 k y0 y1 y2 y3) (impl_curveText.l0 (k + 1) y0 y1 y2 y3))
 | 0 => fun _ _ _ _ r h => by simp [impl_curveText.l0] at h
 | k + 1 => by
  have ih0 := impl_curveText.mono_l k
  intro y0 y1 y2 y3
  unfold impl_curveText.l0
  repeat' first
  | (with_reducible exact ih0 _ _ _ _)
  | (with_reducible exact LeO.refl _)
  | (with_reducible exact LeO.none _)
  | (with_reducible refine LeO.ite ?_ ?_)
  | (with_reducible refine LeO.bind ?_ (fun _ => ?_))
  | exact ih0 _ _ _ _
  | exact LeO.none _
  | refine LeO.ite ?_ ?_
  | refine LeO.bind ?_ (fun _ => ?_)
theorem impl_curveText.mono : ∀ a0 k, LeO (impl_curveText.f k a0) (impl_curveText.f (k + 1) a0) := by
 intro a0 k
 have ih0 := impl_curveText.mono_l k
 unfold impl_curveText.f
 repeat' first
   | (with_reducible exact ih0 _ _ _ _)
   | (with_reducible exact LeO.refl _)
   | (with_reducible exact LeO.none _)
   | (with_reducible refine LeO.ite ?_ ?_)
   | (with_reducible refine LeO.bind ?_ (fun _ => ?_))
   | exact ih0 _ _ _ _
   | exact LeO.none _
   | refine LeO.ite ?_ ?_
   | refine LeO.bind ?_ (fun _ => ?_)
def impl_curveText.T5 : Bool × List (List Nat × List Nat) := (true, [([], []), ([], []), ([1], [1]), ([2], [2]), ([3], [3]), ([4], [4]), ([], []), ([6], [6]), ([7], [7]), ([8, 4], [8]), ([5, 9], [5, 9]), ([10], [10]), ([0, 11, 9], [0, 11]), ([12, 12, 0, 1, 2, 3, 4, 5, 6, 7, 8, 9, 10, 11, 12], [0, 12])])
def impl_curveText.B5 : List Nat := [0, 0, 2, 6, 14, 30, 0, 64, 192, 478, 1022, 2046, 4095, 8191]
theorem impl_curveText.tab5 : rtab .any (opsOf Tryz.f77 5) = impl_curveText.T5 := by kernel_rfl
theorem impl_curveText.bits5 : waitsOk impl_curveText.T5.2 impl_curveText.B5 = true := by kernel_rfl
set_option maxHeartbeats 8000000 in
set_option maxRecDepth 100000 in
theorem impl_curveText.calls (k : Nat) (A0 : Option Addr) (c0 : Nat) (l0 : List (S102)) (r : ByteArray) (w : World) (hr0 : Kd.C k102 w A0 l0.length l0) (hc0 : l0.length ≤ c0) (h : impl_curveText.f k l0 = some r) (hT10 : Tab10 w) :
  Calls Tryz.prog 77 #[.slice A0 l0.length c0] w fun e w' => e = .returned (.string r) ∧ Below w.heap.size w w' := by
 have HT10 := Aside0.mk hT10
 clear hT10
 have hu102 := Tryz.underlying102
 have HR0 := Aside0.mk hr0
 have HC0 := Aside0.mk hc0
 clear hr0 hc0
 have HB := Aside0.mk (Below.refl w.heap.size w)
 have H : (impl_curveText.l0 k (([] : List ByteArray)) l0 (l0.length : Int) 0) = some r := h
 clear h
 obtain ⟨y247, hy247⟩ : ∃ y_ : List ByteArray, y_ = (([] : List ByteArray)) := ⟨_, rfl⟩
 replace H : (impl_curveText.l0 k y247 l0 (l0.length : Int) 0) = some r := by first | (rw [hy247]; with_reducible exact H) | (have H2_ := (Option.bind_some _ _).symm.trans H; rw [hy247]; with_reducible exact H2_) | (have H2_ := (Option.bind_some _ _).symm.trans H; with_reducible exact H2_) | with_reducible exact H | (rw [hy247]; exact H) | exact H
 have Ny247 := Aside0.mk hy247
 clear hy247
 have H' := Aside0.mk H
 clear H
 go_enter Tryz.func77, Tryz.ntmps77
 go_wp2_with (first | ((with_reducible refine gate_dst (N := 6) rfl ?_); refine Kd.R_lit Kd.string _ 9 ?hg (N := 6) ?hd (xs := ([] : List ByteArray)) (inner := []) (ok := fun _ => True) (okp := fun _ => True) ?hr ?hp (fun _ hk => hk) trivial (Below.refl _ _) (Nat.le_refl _) (by simp) ?_; (case hd => rfl); (case hg => rfl); (case hr => first | (go_simp; done) | (go_simp; rfl)); (case hp => exact (Reps.none _ _)); intro v248 w2 ho3 hb hg_ hnew_; clear hg_ hnew_; (first | rw [← Ny247.out] at ho3 | (simp only [Int.reduceToNat] at ho3; rw [← Ny247.out] at ho3)); have n0_ := Aside0.mk (Kd.R_lower ho3 (below_size HB.out)); have n1_ := Aside0.mk (below_step HB.out hb); clear HB; have HO249 := n0_; have HB := n1_; clear n0_ n1_; clear hb ho3))
 go_loopg [3, 9] k (fun kq v3 v9 w' => ∃ (x3_1 : List ByteArray) (x9_1 : Int), v9 = .int .i64 x9_1 ∧ Aside0 (impl_curveText.l0 kq x3_1 l0 (l0.length : Int) x9_1 = some r) ∧ Aside0 (kq ≤ k) ∧ Aside0 (Kd.R Kd.string 9 w' w.heap.size (fun _ => True) v3 x3_1) ∧ Aside0 (Below w.heap.size w w'))
 case atStart => exact ⟨(y247), (0), (by first | rfl | (simp; done) | (simp [*]; done)), H', ⟨Nat.le_refl _⟩, ⟨by (with_reducible repeat (first | apply Kd.R_alloc | apply Kd.R_drewN | apply Kd.R_drew)); exact HO249.out⟩, ⟨by repeat (first | (with_reducible first | exact HB.out | apply below_alloc | apply pw_below_drewN | apply below_drew1) | exact HB.out)⟩⟩
 clear H'
 try clear p2
 obtain ⟨x3_1, x9_1, rfl, HA, HK1, HO_3, HB⟩ := hrel
 cases gk with
 | zero => exact absurd HA.out (by simp [impl_curveText.l0])
 | succ k1 =>
  have H := HA.out
  clear HA
  simp only [impl_curveText.l0] at H
  by_cases c4 : x9_1 < (l0.length : Int)
  ·rw [if_pos c4] at H
   have c4b0 : decide (x9_1 < (l0.length : Int)) = true := decide_eq_true c4
   clear c4
   by_cases c5 : 0 ≤ x9_1
   ·rw [if_pos c5] at H
    have c5b0 : decide (0 ≤ x9_1) = true := decide_eq_true c5
    clear c5
    by_cases c6 : x9_1 < (l0.length : Int)
    ·rw [if_pos c6] at H
     have c6b0 : decide (x9_1 < (l0.length : Int)) = true := decide_eq_true c6
     clear c6
     replace H := Option.bind_eq_some_iff.mp H
     obtain ⟨t252, A70, H⟩ := H
     replace H : (if t252.size + 1 ≤ 9223372036854775807 then ((impl_decimal.f (wrap64 ((rd_T102 l0 x9_1).f1))).bind fun t253 => (if (t252 ++ (⟨#[58]⟩ : ByteArray)).size + t253.size ≤ 9223372036854775807 then (if x3_1.length < 8796093022208 then (impl_curveText.l0 k1 (x3_1 ++ [(t252 ++ (⟨#[58]⟩ : ByteArray)) ++ t253]) l0 (l0.length : Int) (wrap64 (x9_1 + 1))) else (none)) else (none))) else (none)) = some r := H
     have A7 := Aside0.mk A70
     clear A70
     by_cases c8 : t252.size + 1 ≤ 9223372036854775807
     ·rw [if_pos c8] at H
      have c8b0 := eq_true c8
      have c8b1 : decide (t252.size + 1 ≤ 9223372036854775807) = true := decide_eq_true c8
      try have c8b2 : (9223372036854775807 < t252.size + 1) = False := eq_false (Nat.not_lt.2 c8)
      replace H := Option.bind_eq_some_iff.mp H
      obtain ⟨t253, A90, H⟩ := H
      replace H : (if (t252 ++ (⟨#[58]⟩ : ByteArray)).size + t253.size ≤ 9223372036854775807 then (if x3_1.length < 8796093022208 then (impl_curveText.l0 k1 (x3_1 ++ [(t252 ++ (⟨#[58]⟩ : ByteArray)) ++ t253]) l0 (l0.length : Int) (wrap64 (x9_1 + 1))) else (none)) else (none)) = some r := H
      have A9 := Aside0.mk A90
      clear A90
      by_cases c10 : (t252 ++ (⟨#[58]⟩ : ByteArray)).size + t253.size ≤ 9223372036854775807
      ·rw [if_pos c10] at H
       have c10b0 := eq_true c10
       have c10b1 : decide ((t252 ++ (⟨#[58]⟩ : ByteArray)).size + t253.size ≤ 9223372036854775807) = true := decide_eq_true c10
       try have c10b2 : (9223372036854775807 < (t252 ++ (⟨#[58]⟩ : ByteArray)).size + t253.size) = False := eq_false (Nat.not_lt.2 c10)
       try have c10b3 := c10b2
       try simp only [ByteArray.size_append, show (⟨#[32]⟩ : ByteArray).size = 1 from rfl, show (⟨#[58]⟩ : ByteArray).size = 1 from rfl] at c10b3
       by_cases c11 : x3_1.length < 8796093022208
       ·rw [if_pos c11] at H
        have LMc11 := Aside0.mk c11
        clear c11
        obtain ⟨y254, hy254⟩ : ∃ y_ : List ByteArray, y_ = (x3_1 ++ [(t252 ++ (⟨#[58]⟩ : ByteArray)) ++ t253]) := ⟨_, rfl⟩
        replace H : (impl_curveText.l0 k1 y254 l0 (l0.length : Int) (wrap64 (x9_1 + 1))) = some r := by first | (rw [hy254]; with_reducible exact H) | (have H2_ := (Option.bind_some _ _).symm.trans H; rw [hy254]; with_reducible exact H2_) | (have H2_ := (Option.bind_some _ _).symm.trans H; with_reducible exact H2_) | with_reducible exact H | (rw [hy254]; exact H) | exact H
        have Ny254 := Aside0.mk hy254
        clear hy254
        have H' := Aside0.mk H
        clear H
        have p250 : 0 ≤ (x9_1 : Int) := of_decide_eq_true (by first | (with_reducible assumption) | assumption)
        have q250 : x9_1 < (l0.length : Int) := of_decide_eq_true (by first | (with_reducible assumption) | assumption)
        obtain ⟨ad250, e250, hx250_0, hx250_1⟩ := at_T102 HR0.out x9_1 p250 q250
        cases e250
        replace hx250_0 := (HB.out.cell (World.block_lt_of_cell? w _ hx250_0)).trans hx250_0
        replace hx250_1 := (HB.out.cell (World.block_lt_of_cell? w _ hx250_1)).trans hx250_1
        replace p250 := eq_true p250
        replace q250 := eq_true q250
        try go_wp2_with (first | ((with_reducible refine gate_dst (N := 5) rfl ?_); refine box_event ?hg (N := 5) ?hd (cs := #[.int .i16 0, .int .i16 0]) (t := 102) ?hr ?_; (case hd => rfl); (case hg => rfl); (case hr => first | (go_simp; done) | (go_simp; rfl)); intro gb251 hg w12 hbox hb; have n0_ := Aside0.mk (Kd.R_below HO_3.out hb); have n1_ := Aside0.mk (below_step HB.out hb); have n2_ := Aside0.mk (hbox); have n3_ := Aside0.mk ((by rw [hg]; exact (below_size HB.out) : w.heap.size ≤ gb251)); have n4_ := Aside0.mk ((by rw [hg]; exact (below_size HB.out) : w.heap.size ≤ gb251)); clear HO_3; clear HB; have HO_3 := n0_; have HB := n1_; have BK251 := n2_; have GW251 := n3_; have GE251 := n4_; clear n0_ n1_ n2_ n3_ n4_; clear hb hbox hg; have hcz13_0 := blk_c BK251.out 0 rfl; have hcz13_1 := blk_c BK251.out 1 rfl; have hfz13_0 := blk_frozen BK251.out 0; have hfz13_1 := blk_frozen BK251.out 1))
        have n0_ : Aside0 (Kd.R Kd.string 9 ((w12.setCell ⟨gb251, 0, none⟩ (.int .i16 ((rd_T102 l0 x9_1).f0))).setCell ⟨gb251, 1, none⟩ (.int .i16 ((rd_T102 l0 x9_1).f1))) w.heap.size (fun _ => True) u3 x3_1) := ⟨by (with_reducible repeat (first | apply Kd.R_alloc | apply Kd.R_drewN | apply Kd.R_drew)); exact Kd.R_mono (Kd.R_far (p := ⟨gb251, 1, none⟩) (Kd.R_far (p := ⟨gb251, 0, none⟩) (Kd.R_types HO_3.out BK251.out (by decide)) (fun _ hk => hk.2) (.int .i16 ((rd_T102 l0 x9_1).f0))) (fun _ hk => hk.2) (.int .i16 ((rd_T102 l0 x9_1).f1))) (fun _ hk => trivial)⟩
        have n1_ : Aside0 (((w12.setCell ⟨gb251, 0, none⟩ (.int .i16 ((rd_T102 l0 x9_1).f0))).setCell ⟨gb251, 1, none⟩ (.int .i16 ((rd_T102 l0 x9_1).f1))).heap[gb251]? = some (.cells #[.int .i16 ((rd_T102 l0 x9_1).f0), .int .i16 ((rd_T102 l0 x9_1).f1)] 102 (0, 0))) := ⟨by (with_reducible repeat (first | refine blk_drewN ?_ _ | refine blk_drew ?_ | refine blk_alloc ?_ _)); refine blk_put (cs := #[.int .i16 ((rd_T102 l0 x9_1).f0), .int .i16 0]) ?_ 1 _ rfl; (with_reducible repeat (first | refine blk_drewN ?_ _ | refine blk_drew ?_ | refine blk_alloc ?_ _)); refine blk_put (cs := #[.int .i16 0, .int .i16 0]) ?_ 0 _ rfl; (with_reducible repeat (first | refine blk_drewN ?_ _ | refine blk_drew ?_ | refine blk_alloc ?_ _)); exact BK251.out⟩
        have n2_ : Aside0 (Below w.heap.size w ((w12.setCell ⟨gb251, 0, none⟩ (.int .i16 ((rd_T102 l0 x9_1).f0))).setCell ⟨gb251, 1, none⟩ (.int .i16 ((rd_T102 l0 x9_1).f1)))) := ⟨by repeat (first | (with_reducible first | exact HB.out | apply below_alloc | apply pw_below_drewN | apply below_drew1 | refine below_set ?_ GE251.out) | exact HB.out)⟩
        (try clear HO_3)
        (try clear BK251)
        (try clear HB)
        generalize ((w12.setCell ⟨gb251, 0, none⟩ (.int .i16 ((rd_T102 l0 x9_1).f0))).setCell ⟨gb251, 1, none⟩ (.int .i16 ((rd_T102 l0 x9_1).f1))) = w14 at n0_ n1_ n2_ ⊢
        have HO_3 := n0_
        have BK251 := n1_
        have HB := n2_
        clear n0_ n1_ n2_
        have n0_ := Aside0.mk (Kd.R_drew HO_3.out)
        have n1_ := Aside0.mk (blk_drew BK251.out)
        have n2_ := Aside0.mk (below_drew1 HB.out)
        clear HO_3
        clear BK251
        clear HB
        have HO_3 := n0_
        have BK251 := n1_
        have HB := n2_
        clear n0_ n1_ n2_
        refine start_ (n := 14) (S := fun w' => w'.cell? ⟨gb251, 0, none⟩ = some (.int .i16 ((rd_T102 l0 x9_1).f0)) ∧ w'.cell? ⟨gb251, 1, none⟩ = some (.int .i16 ((rd_T102 l0 x9_1).f1))) (ds := []) #[false, false, false, false, false, false, false, false, false, false, false, false, false, false] (by kernel_rfl) rfl rfl ⟨(blk_cell BK251.out 0).trans rfl, (blk_cell BK251.out 1).trans rfl⟩ (fun hHeld => ?_); refine with_tabW impl_curveText.tab5 impl_curveText.bits5 (fun HT_ HW_ => ?_)
        generalize w14.drew = w15 at HO_3 BK251 HB hHeld ⊢
        refine pure_ (i := 0) (N := some 13) (v := ?_) (a' := ?_) #[true, false, false, false, false, false, false, false, false, false, false, false, false, false] rfl rfl (any_of HT_.out (by kernel_rfl)) (fun _ _ _ h => h) (Or.inl ⟨by rfl, ?_⟩) ?_ ?_
        rotate_left
        ·intro w'
         go_simp
         first | with_reducible rfl | (rw [if_neg (by (try simp only [ByteArray.size_append, show (⟨#[32]⟩ : ByteArray).size = 1 from rfl, show (⟨#[58]⟩ : ByteArray).size = 1 from rfl] at c8); (try simp only [ByteArray.size_append, show (⟨#[32]⟩ : ByteArray).size = 1 from rfl, show (⟨#[58]⟩ : ByteArray).size = 1 from rfl] at c10); omega)]; try with_reducible rfl)
        rotate_left
        ·simp only [Act.put, List.setIfInBounds_toArray, List.set_cons_zero, List.set_cons_succ, i64_w, i32_w]
         rfl
        refine pure_ (i := 1) (N := some 14) (v := ?_) (a' := ?_) #[true, true, false, false, false, false, false, false, false, false, false, false, false, false] rfl rfl (any_of HT_.out (by kernel_rfl)) (fun _ _ _ h => h) (Or.inl ⟨by rfl, ?_⟩) ?_ ?_
        rotate_left
        ·intro w'
         go_simp
         first | with_reducible rfl | (rw [if_neg (by (try simp only [ByteArray.size_append, show (⟨#[32]⟩ : ByteArray).size = 1 from rfl, show (⟨#[58]⟩ : ByteArray).size = 1 from rfl] at c8); (try simp only [ByteArray.size_append, show (⟨#[32]⟩ : ByteArray).size = 1 from rfl, show (⟨#[58]⟩ : ByteArray).size = 1 from rfl] at c10); omega)]; try with_reducible rfl)
        rotate_left
        ·simp only [Act.put, List.setIfInBounds_toArray, List.set_cons_zero, List.set_cons_succ, i64_w, i32_w]
         rfl
        refine pure_ (i := 6) (N := some 19) (v := ?_) (a' := ?_) #[true, true, false, false, false, false, true, false, false, false, false, false, false, false] rfl rfl (any_of HT_.out (by kernel_rfl)) (fun _ _ _ h => h) (Or.inl ⟨by rfl, ?_⟩) ?_ ?_
        rotate_left
        ·intro w'
         go_simp
         first | with_reducible rfl | (rw [if_neg (by (try simp only [ByteArray.size_append, show (⟨#[32]⟩ : ByteArray).size = 1 from rfl, show (⟨#[58]⟩ : ByteArray).size = 1 from rfl] at c8); (try simp only [ByteArray.size_append, show (⟨#[32]⟩ : ByteArray).size = 1 from rfl, show (⟨#[58]⟩ : ByteArray).size = 1 from rfl] at c10); omega)]; try with_reducible rfl)
        rotate_left
        ·simp only [Act.put, List.setIfInBounds_toArray, List.set_cons_zero, List.set_cons_succ, i64_w, i32_w]
         rfl
        refine take_ (i := 2) (N := some 15) (v := ?_) (a' := ?_) #[true, true, true, false, false, false, true, false, false, false, false, false, false, false] rfl rfl (take_ofW HT_.out HW_.out (by kernel_rfl)) (fun _ _ _ h => h) (Or.inl ⟨by rfl, ?_⟩) hHeld ?_ ?_
        rotate_left
        ·rintro w' ⟨s0, s1⟩
         go_simp
         first | with_reducible rfl | (rw [if_neg (by (try simp only [ByteArray.size_append, show (⟨#[32]⟩ : ByteArray).size = 1 from rfl, show (⟨#[58]⟩ : ByteArray).size = 1 from rfl] at c8); (try simp only [ByteArray.size_append, show (⟨#[32]⟩ : ByteArray).size = 1 from rfl, show (⟨#[58]⟩ : ByteArray).size = 1 from rfl] at c10); omega)]; try with_reducible rfl)
        rotate_left
        ·simp only [Act.put, List.setIfInBounds_toArray, List.set_cons_zero, List.set_cons_succ, i64_w, i32_w]
         rfl
        refine pure_ (i := 3) (N := some 16) (v := ?_) (a' := ?_) #[true, true, true, true, false, false, true, false, false, false, false, false, false, false] rfl rfl (any_of HT_.out (by kernel_rfl)) (fun _ _ _ h => h) (Or.inl ⟨by rfl, ?_⟩) ?_ ?_
        rotate_left
        ·intro w'
         go_simp
         first | with_reducible rfl | (rw [if_neg (by (try simp only [ByteArray.size_append, show (⟨#[32]⟩ : ByteArray).size = 1 from rfl, show (⟨#[58]⟩ : ByteArray).size = 1 from rfl] at c8); (try simp only [ByteArray.size_append, show (⟨#[32]⟩ : ByteArray).size = 1 from rfl, show (⟨#[58]⟩ : ByteArray).size = 1 from rfl] at c10); omega)]; try with_reducible rfl)
        rotate_left
        ·simp only [Act.put, List.setIfInBounds_toArray, List.set_cons_zero, List.set_cons_succ, i64_w, i32_w]
         rfl
        refine take_ (i := 7) (N := some 20) (v := ?_) (a' := ?_) #[true, true, true, true, false, false, true, true, false, false, false, false, false, false] rfl rfl (take_ofW HT_.out HW_.out (by kernel_rfl)) (fun _ _ _ h => h) (Or.inl ⟨by rfl, ?_⟩) hHeld ?_ ?_
        rotate_left
        ·rintro w' ⟨s0, s1⟩
         go_simp
         first | with_reducible rfl | (rw [if_neg (by (try simp only [ByteArray.size_append, show (⟨#[32]⟩ : ByteArray).size = 1 from rfl, show (⟨#[58]⟩ : ByteArray).size = 1 from rfl] at c8); (try simp only [ByteArray.size_append, show (⟨#[32]⟩ : ByteArray).size = 1 from rfl, show (⟨#[58]⟩ : ByteArray).size = 1 from rfl] at c10); omega)]; try with_reducible rfl)
        rotate_left
        ·simp only [Act.put, List.setIfInBounds_toArray, List.set_cons_zero, List.set_cons_succ, i64_w, i32_w]
         rfl
        refine pure_ (i := 8) (N := some 21) (v := ?_) (a' := ?_) #[true, true, true, true, false, false, true, true, true, false, false, false, false, false] rfl rfl (any_of HT_.out (by kernel_rfl)) (fun _ _ _ h => h) (Or.inl ⟨by rfl, ?_⟩) ?_ ?_
        rotate_left
        ·intro w'
         go_simp
         first | with_reducible rfl | (rw [if_neg (by (try simp only [ByteArray.size_append, show (⟨#[32]⟩ : ByteArray).size = 1 from rfl, show (⟨#[58]⟩ : ByteArray).size = 1 from rfl] at c8); (try simp only [ByteArray.size_append, show (⟨#[32]⟩ : ByteArray).size = 1 from rfl, show (⟨#[58]⟩ : ByteArray).size = 1 from rfl] at c10); omega)]; try with_reducible rfl)
        rotate_left
        ·simp only [Act.put, List.setIfInBounds_toArray, List.set_cons_zero, List.set_cons_succ, i64_w, i32_w]
         rfl
        refine one_ (i := 4) (N := some 17) #[true, true, true, true, true, false, true, true, true, false, false, false, false, false] rfl rfl (one_of HT_.out (by kernel_rfl)) (by decide) (fun K hK => ?_)
        refine goes_ Tryz.func80 (by kernel_rfl) rfl #[.int .i64 (wrap64 ((rd_T102 l0 x9_1).f0))] (by rfl) rfl rfl (by (try simp only [List.map_toArray, List.map_cons, List.map_nil]); first | done | rfl | (simp only [List.length_drop, List.length_take]; rfl)) ?_
        with_reducible refine (impl_decimal.calls (wrap64 ((rd_T102 l0 x9_1).f0)) t252 _ A7.out (by repeat (first | exact HT10.out.below HB.out | exact HT10.out | exact HT10.out.below (by repeat (first | (with_reducible first | exact HB.out | apply below_alloc | apply pw_below_drewN | apply below_drew1) | refine below_set ?_ (Aside0.out (by assumption)) | exact HB.out)) | refine Tab10.alloc ?_ _ | refine Tab10.drewN ?_ _ | refine Tab10.drew ?_))).mono ?_
        rintro e w16 ⟨rfl, hb⟩
        refine ⟨_, rfl, ?_⟩
        have n0_ := Aside0.mk (Kd.R_below (by (with_reducible repeat (first | apply Kd.R_alloc | apply Kd.R_drewN | apply Kd.R_drew)); exact HO_3.out) hb)
        have n1_ := Aside0.mk (blk_below BK251.out hb)
        have n2_ := Aside0.mk (below_step HB.out hb)
        clear HO_3
        clear BK251
        clear HB
        have HO_3 := n0_
        have BK251 := n1_
        have HB := n2_
        clear n0_ n1_ n2_
        (try clear hb)
        (try clear hb2)
        (try clear hk)
        (try clear hi)
        refine hK.out _ _ ⟨(blk_cell BK251.out 0).trans rfl, (blk_cell BK251.out 1).trans rfl⟩ (fun hHeld => ?_)
        clear hK K
        refine norm_ (a' := ?_) ?_ ?_
        rotate_left
        ·show Act.put _ (some 17) _ = _
         simp only [Act.put, List.setIfInBounds_toArray, List.set_cons_zero, List.set_cons_succ, i64_w, i32_w]
         rfl
        refine pure_ (i := 5) (N := some 18) (v := ?_) (a' := ?_) #[true, true, true, true, true, true, true, true, true, false, false, false, false, false] rfl rfl (any_of HT_.out (by kernel_rfl)) (fun _ _ _ h => h) (Or.inl ⟨by rfl, ?_⟩) ?_ ?_
        rotate_left
        ·intro w'
         go_simp
         first | with_reducible rfl | (rw [if_neg (by (try simp only [ByteArray.size_append, show (⟨#[32]⟩ : ByteArray).size = 1 from rfl, show (⟨#[58]⟩ : ByteArray).size = 1 from rfl] at c8); (try simp only [ByteArray.size_append, show (⟨#[32]⟩ : ByteArray).size = 1 from rfl, show (⟨#[58]⟩ : ByteArray).size = 1 from rfl] at c10); omega)]; try with_reducible rfl)
        rotate_left
        ·simp only [Act.put, List.setIfInBounds_toArray, List.set_cons_zero, List.set_cons_succ, i64_w, i32_w]
         rfl
        refine one_ (i := 9) (N := some 22) #[true, true, true, true, true, true, true, true, true, true, false, false, false, false] rfl rfl (one_of HT_.out (by kernel_rfl)) (by decide) (fun K hK => ?_)
        refine goes_ Tryz.func80 (by kernel_rfl) rfl #[.int .i64 (wrap64 ((rd_T102 l0 x9_1).f1))] (by rfl) rfl rfl (by (try simp only [List.map_toArray, List.map_cons, List.map_nil]); first | done | rfl | (simp only [List.length_drop, List.length_take]; rfl)) ?_
        with_reducible refine (impl_decimal.calls (wrap64 ((rd_T102 l0 x9_1).f1)) t253 _ A9.out (by repeat (first | exact HT10.out.below HB.out | exact HT10.out | exact HT10.out.below (by repeat (first | (with_reducible first | exact HB.out | apply below_alloc | apply pw_below_drewN | apply below_drew1) | refine below_set ?_ (Aside0.out (by assumption)) | exact HB.out)) | refine Tab10.alloc ?_ _ | refine Tab10.drewN ?_ _ | refine Tab10.drew ?_))).mono ?_
        rintro e w17 ⟨rfl, hb⟩
        refine ⟨_, rfl, ?_⟩
        have n0_ := Aside0.mk (Kd.R_below (by (with_reducible repeat (first | apply Kd.R_alloc | apply Kd.R_drewN | apply Kd.R_drew)); exact HO_3.out) hb)
        have n1_ := Aside0.mk (blk_below BK251.out hb)
        have n2_ := Aside0.mk (below_step HB.out hb)
        clear HO_3
        clear BK251
        clear HB
        have HO_3 := n0_
        have BK251 := n1_
        have HB := n2_
        clear n0_ n1_ n2_
        (try clear hb)
        (try clear hb2)
        (try clear hk)
        (try clear hi)
        refine hK.out _ _ ⟨(blk_cell BK251.out 0).trans rfl, (blk_cell BK251.out 1).trans rfl⟩ (fun hHeld => ?_)
        clear hK K
        refine norm_ (a' := ?_) ?_ ?_
        rotate_left
        ·show Act.put _ (some 22) _ = _
         simp only [Act.put, List.setIfInBounds_toArray, List.set_cons_zero, List.set_cons_succ, i64_w, i32_w]
         rfl
        refine pure_ (i := 10) (N := some 23) (v := ?_) (a' := ?_) #[true, true, true, true, true, true, true, true, true, true, true, false, false, false] rfl rfl (any_of HT_.out (by kernel_rfl)) (fun _ _ _ h => h) (Or.inl ⟨by rfl, ?_⟩) ?_ ?_
        rotate_left
        ·intro w'
         go_simp
         first | with_reducible rfl | (rw [if_neg (by (try simp only [ByteArray.size_append, show (⟨#[32]⟩ : ByteArray).size = 1 from rfl, show (⟨#[58]⟩ : ByteArray).size = 1 from rfl] at c8); (try simp only [ByteArray.size_append, show (⟨#[32]⟩ : ByteArray).size = 1 from rfl, show (⟨#[58]⟩ : ByteArray).size = 1 from rfl] at c10); omega)]; try with_reducible rfl)
        rotate_left
        ·simp only [Act.put, List.setIfInBounds_toArray, List.set_cons_zero, List.set_cons_succ, i64_w, i32_w]
         rfl
        refine one_ (i := 11) (N := some 24) #[true, true, true, true, true, true, true, true, true, true, true, true, false, false] rfl rfl (one_of HT_.out (by kernel_rfl)) (by decide) (fun K hK => ?_)
        refine value_ (w1 := ?_) (v := ?_) (by rfl) rfl ?_ ?_
        rotate_left 2
        ·go_simp
         constructor
         ·rfl
         rfl
        refine hK.out _ _ ⟨(blk_cell (blk_alloc BK251.out _) 0).trans rfl, (blk_cell (blk_alloc BK251.out _) 1).trans rfl⟩ (fun hHeld => ?_)
        clear hK K
        refine norm_ (a' := ?_) ?_ ?_
        rotate_left
        ·show Act.put _ (some 24) _ = _
         simp only [Act.put, List.setIfInBounds_toArray, List.set_cons_zero, List.set_cons_succ, i64_w, i32_w]
         rfl
        refine one_ (i := 12) (N := some 25) #[true, true, true, true, true, true, true, true, true, true, true, true, true, false] rfl rfl (one_of HT_.out (by kernel_rfl)) (by decide) (fun K hK => ?_)
        refine Kd.R_append_step Kd.string (w0 := w) w.heap.size (by rfl) (.tmp 13) (.tmp 24) 75 9 (.string ⟨#[]⟩) 16 rfl Tryz.underlying75 info9 rfl (by decide) (by omega) u3 x3_1 ((t252 ++ (⟨#[58]⟩ : ByteArray)) ++ t253) [.string ((t252 ++ (⟨#[58]⟩ : ByteArray)) ++ t253)] (fun _ => True) (fun _ => False) rfl rfl ?aP (fun _ hk => hk.elim) ?aF ?aO ?aB ?aS ?aL ?_
        (case aP => exact rfl)
        (case aB => exact HB.out)
        (case aF => exact (fun _ _ => trivial))
        (case aO => exact (by (with_reducible repeat (first | apply Kd.R_alloc | apply Kd.R_drewN | apply Kd.R_drew)); exact HO_3.out))
        (case aS => exact (below_size HB.out))
        (case aL => have := LMc11.out; omega)
        intro v255 w18 ho hb hg hat
        rw [← Ny254.out] at ho
        have n0_ := Aside0.mk (blk_grown BK251.out hg (Kd.R_ne HO_3.out BK251.out (by decide)))
        have n1_ := Aside0.mk (hb)
        have n2_ := Aside0.mk (ho)
        clear BK251
        clear HB
        clear HO_3
        have BK251 := n0_
        have HB := n1_
        have HO256 := n2_
        clear n0_ n1_ n2_
        clear ho hb hg hat
        refine hK.out _ _ ⟨(blk_cell BK251.out 0).trans rfl, (blk_cell BK251.out 1).trans rfl⟩ (fun hHeld => ?_)
        clear hK K
        refine norm_ (a' := ?_) ?_ ?_
        rotate_left
        ·show Act.put _ (some 25) _ = _
         simp only [Act.put, List.setIfInBounds_toArray, List.set_cons_zero, List.set_cons_succ, i64_w, i32_w]
         rfl
        refine pure_ (i := 13) (N := some 3) (v := ?_) (a' := ?_) #[true, true, true, true, true, true, true, true, true, true, true, true, true, true] rfl rfl (any_of HT_.out (by kernel_rfl)) (fun _ _ _ h => h) (Or.inl ⟨by rfl, ?_⟩) ?_ ?_
        rotate_left
        ·intro w'
         go_simp
         first | with_reducible rfl | (rw [if_neg (by (try simp only [ByteArray.size_append, show (⟨#[32]⟩ : ByteArray).size = 1 from rfl, show (⟨#[58]⟩ : ByteArray).size = 1 from rfl] at c8); (try simp only [ByteArray.size_append, show (⟨#[32]⟩ : ByteArray).size = 1 from rfl, show (⟨#[58]⟩ : ByteArray).size = 1 from rfl] at c10); omega)]; try with_reducible rfl)
        rotate_left
        ·simp only [Act.put, List.setIfInBounds_toArray, List.set_cons_zero, List.set_cons_succ, i64_w, i32_w]
         rfl
        refine done_ (done_of HT_.out (by kernel_rfl)) ?_
        try go_wp2
        go_roundg k1
        case measure => have := HK1.out; omega
        case rel => exact ⟨(y254), (wrap64 (x9_1 + 1)), (by first | rfl | (simp; done) | (simp [*]; done)), H', ⟨by have := HK1.out; omega⟩, ⟨by (with_reducible repeat (first | apply Kd.R_alloc | apply Kd.R_drewN | apply Kd.R_drew)); exact HO256.out⟩, ⟨by repeat (first | (with_reducible first | exact HB.out | apply below_alloc | apply pw_below_drewN | apply below_drew1 | refine below_set ?_ GE251.out) | exact HB.out)⟩⟩
       rw [if_neg c11] at H
       exact absurd H (by simp)
      rw [if_neg c10] at H
      exact absurd H (by simp)
     rw [if_neg c8] at H
     exact absurd H (by simp)
    rw [if_neg c6] at H
    exact absurd H (by simp)
   rw [if_neg c5] at H
   exact absurd H (by simp)
  rw [if_neg c4] at H
  have c4b0 : decide (x9_1 < (l0.length : Int)) = false := decide_eq_false c4
  clear c4
  replace H := Option.bind_eq_some_iff.mp H
  obtain ⟨t257, A190, H⟩ := H
  replace H : (some t257) = some r := H
  have A19 := Aside0.mk A190
  clear A190
  obtain rfl := Option.some.inj H
  obtain ⟨Ao20, co20, eo20⟩ := Kd.R_slice HO_3.out
  subst eo20
  go_wp2_with (first | ((with_reducible refine gate_callee (f := 99) rfl ?_); refine goesL_ (some 28) rfl rfl Tryz.func99 (by kernel_rfl) rfl #[.slice Ao20 x3_1.length co20, .string (⟨#[32]⟩ : ByteArray)] rfl (by (try simp only [List.map_toArray, List.map_cons, List.map_nil]); first | done | rfl | (simp only [List.length_drop, List.length_take]; rfl)) ?_; (with_reducible refine (strings_Join.calls _ _ x3_1 (⟨#[32]⟩ : ByteArray) t257 _ ?side1 ?side2 A19.out (fun hp_ => by obtain ⟨g_, cap_, he_, _, hl_, _⟩ := Kd.R_form HO_3.out hp_; injection he_ with h1_ _ _; exact ⟨g_, h1_, hl_⟩)).mono ?_); (case side1 => repeat (first | exact (Kd.R_reads' HO_3.out).2.2 | (with_reducible refine Kd.C_alloc ?_ _) | (with_reducible refine Kd.C_drewN ?_ _) | (with_reducible refine Kd.C_drew ?_))); (case side2 => exact (Kd.R_reads' HO_3.out).2.1); rintro e w21 ⟨rfl, hb⟩; refine ⟨_, rfl, ?_⟩; have n0_ := Aside0.mk (Kd.R_below HO_3.out hb); have n1_ := Aside0.mk (below_step HB.out hb); clear HO_3; clear HB; have HO_3 := n0_; have HB := n1_; clear n0_ n1_; (try clear hb); (try clear hb2); (try clear hk); (try clear hi)))
  go_ret
  exact ⟨by first | rfl | (simp [errW_none, errW_some] <;> rfl) | (simp [*, errW_none, errW_some] <;> rfl), by repeat (first | (with_reducible first | exact HB.out | apply below_alloc | apply pw_below_drewN | apply below_drew1) | exact HB.out)⟩

/-! ### strconv_FormatUint: function 78 -/
def HexAt (W : World) (b : Nat) (T : TypeId) (k : IntKind) (xs : List Int) : Prop := W.heap[b]? = some (.cells (nums k xs).toArray T (0, 0))
theorem HexAt.cell {W : World} {b : Nat} {T : TypeId} {k : IntKind} {xs : List Int} (h : HexAt W b T k xs) {i : Int} (h0 : 0 ≤ i) (h1 : i < xs.length) : W.cell? ⟨b, i.toNat, none⟩ = some (.int k (rd xs i)) := by
 rw [cell_of_row W b i.toNat _ T (0, 0) h]
 simp [nums, rd, List.getElem?_eq_getElem (show i.toNat < xs.length by omega), List.getD_eq_getElem?_getD]
theorem HexAt.frozen {W : World} {b : Nat} {T : TypeId} {k : IntKind} {xs : List Int} (h : HexAt W b T k xs) (j : Nat) : W.frozen? ⟨b, j, none⟩ = false := frozen_of_row W b j _ T h
theorem HexAt.set {W : World} {b : Nat} {T : TypeId} {k : IntKind} {xs : List Int} (h : HexAt W b T k xs) (i x : Int) : HexAt (W.setCell ⟨b, i.toNat, none⟩ (.int k x)) b T k (xs.set i.toNat x) := by
 unfold HexAt
 rw [heap_setCell_same W b i.toNat _ T _ h]
 simp [nums, List.map_set]
theorem HexAt.new (w : World) (T : TypeId) (k : IntKind) (xs : List Int) : HexAt (w.alloc (.cells (nums k xs).toArray T)) w.heap.size T k xs := heap_alloc_new _ _
def hex_zer (n : Nat) : List Int := List.replicate n 0
theorem hex_zer_len (n : Nat) : (hex_zer n).length = n := by simp [hex_zer]
theorem hex_pow2 (w : World) : Calls Tryz.prog 142 #[.int .i64 16] w fun e w' => e = .returned (.bool true) ∧ w' = w := by
 go_enter Tryz.func142, Tryz.ntmps142
 go_wp2
 go_ret
 exact ⟨rfl, rfl⟩
theorem hex_tz (w : World) (hc : w.cell? ⟨7, 15, none⟩ = some (.int .u8 4)) : Calls Tryz.prog 143 #[.int .u64 16] w fun e w' => e = .returned (.int .i64 4) ∧ Drawn0 w w' := by
 have hi : IntKind.u64.wrap (bits BinOp.and IntKind.u64 16 (IntKind.u64.wrap (-16)) * 285870213051353865) / 288230376151711744 = 15 := by decide +kernel
 go_enter Tryz.func143, Tryz.ntmps143
 go_wp2
 all_goals go_ret
 exact ⟨rfl, by repeat (first | exact Drawn0.refl _ | apply Drawn0.step)⟩
def D_hexDig (d : Int) : Int := if d < 10 then 48 + d else 87 + d
/-- the digits of u to the base 16, the greatest first, ahead of some others -/
def D_hexOn : Nat → Int → List Int → List Int
 | 0, u, l => D_hexDig u :: l
 | d + 1, u, l => if 16 ≤ u then D_hexOn d (u / 16) (D_hexDig (u % 16) :: l) else D_hexDig u :: l
def D_hex (u : Int) : List Int := D_hexOn 15 u []
theorem hex_index (d : Nat) (hd : d < 16) (w : World) : (Instr.index 9 (.string { data := #[48, 49, 50, 51, 52, 53, 54, 55, 56, 57, 97, 98, 99, 100, 101, 102, 103, 104, 105, 106, 107, 108, 109, 110, 111, 112, 113, 114, 115, 116, 117, 118, 119, 120, 121, 122] }) (.int .u64 (d : Int))).run Tryz.prog w = .ok (.int .u8 (D_hexDig d)) w := by
 obtain rfl | rfl | rfl | rfl | rfl | rfl | rfl | rfl | rfl | rfl | rfl | rfl | rfl | rfl | rfl | rfl : d = 0 ∨ d = 1 ∨ d = 2 ∨ d = 3 ∨ d = 4 ∨ d = 5 ∨ d = 6 ∨ d = 7 ∨ d = 8 ∨ d = 9 ∨ d = 10 ∨ d = 11 ∨ d = 12 ∨ d = 13 ∨ d = 14 ∨ d = 15 := by omega
 all_goals kernel_rfl
theorem hex_and (x : Int) (h0 : 0 ≤ x) (h1 : x < 18446744073709551616) : bits .and .u64 x 15 = x % 16 := by
 obtain ⟨n, rfl⟩ : ∃ n : Nat, x = n := ⟨x.toNat, by omega⟩
 rw [show (15 : Int) = ((15 : Nat) : Int) from rfl, bits_and_u64_nat n 15 (by omega) (by omega), show n &&& 15 = n % 16 from Nat.and_two_pow_sub_one_eq_mod n 4]
 omega
theorem hex_exit (k : Nat) (x : Int) (l : List Int) (h : ¬ 16 ≤ x) : D_hexOn k x l = D_hexDig x :: l := by
 cases k with
 | zero => rfl
 | succ k => simp only [D_hexOn]; rw [if_neg h]
theorem hex_slice (b i : Nat) (h1 : i < 65) (W : World) : (Instr.sliceAt 171 (.pointer (some ⟨b, 0, none⟩)) (some (.int .i64 (i : Int))) none none).run Tryz.prog W = .ok (.slice (some ⟨b, i, none⟩) (65 - i) (65 - i)) W := by
 have hl : Tryz.prog.arrayLen 171 = 65 := by kernel_rfl
 have he : Tryz.prog.elem 171 = 5 := by kernel_rfl
 rw [run_sliceAt_array_l W 171 ⟨b, 0, none⟩ (show Tryz.prog.underlying 171 = some (.array (Tryz.prog.arrayLen 171) (Tryz.prog.elem 171)) by kernel_rfl) .i64 (i : Int) (by omega) (by rw [hl]; omega), hl, he, Tryz.sizeOf5]
 simp only [slicedAt, Result.andThen, Int.toNat_natCast]
 rw [if_neg (by omega)]
 simp [Addr.add]
 omega
theorem hex_conv (b i : Nat) (ys : List Int) (W : World) (hl : ys.length = 65) (hA : HexAt W b 171 .u8 ys) :
  (convert 22 9 (.slice (some ⟨b, i, none⟩) (65 - i) (65 - i))).run Tryz.prog W = .ok (.string (strOfNums (ys.drop i))) W := by
 refine run_convert_bytes_arg W 22 5 Tryz.underlying22 Tryz.underlying5 b i _ _ (ys.drop i) (by rw [List.length_drop, hl]) (fun k hk => ?_) 9 Tryz.underlying9
 have h2 := hA.cell (i := ((i + k : Nat) : Int)) (by omega) (by rw [hl]; omega)
 rw [Int.toNat_natCast] at h2
 rw [h2]
 simp only [rd, List.getD, Int.toNat_natCast, List.getElem?_drop]
theorem hex_drop (ys : List Int) (i : Nat) (x : Int) (h : i < ys.length) : (ys.set i x).drop i = x :: ys.drop (i + 1) := by
 rw [List.drop_eq_getElem_cons (by simpa using h), List.getElem_set_self, List.drop_set_of_lt (by omega)]
theorem hex_pow {a b : Nat} (h : a ≤ b) : (16 : Int) ^ a ≤ 16 ^ b := by
 have := Nat.pow_le_pow_right (n := 16) (by omega) h
 have e : ∀ c : Nat, (16 : Int) ^ c = ((16 ^ c : Nat) : Int) := fun c => by simp
 rw [e, e]
 omega
theorem hex_bound {x : Int} {k n : Nat} (h : x < 16 ^ (k + 1 + 1)) (hn : n + (k + 1) = 15) : x < 18446744073709551616 := by
 have : (16 : Int) ^ (k + 1 + 1) ≤ 16 ^ 16 := hex_pow (by omega)
 have e : (16 : Int) ^ 16 = 18446744073709551616 := by decide
 omega
set_option maxHeartbeats 8000000 in
set_option maxRecDepth 100000 in
theorem hex_bits (u : Int) (h0 : 0 ≤ u) (h1 : u < 18446744073709551616) (w : World) (hc : w.cell? ⟨7, 15, none⟩ = some (.int .u8 4)) :
  Calls Tryz.prog 122 #[.slice none 0 0, .int .u64 u, .int .i64 16, .bool false, .bool false] w fun e w' => e = .returned (.tuple #[.slice none 0 0, .string (strOfNums (D_hex u))]) ∧ Below w.heap.size w w' := by
 go_enter Tryz.func122, Tryz.ntmps122
 go_wp2_with fail
 refine (hex_pow2 _).mono ?_
 rintro e w' ⟨rfl, rfl⟩
 go_wp2_with fail
 have hz : Tryz.zeroCells171 = (nums .u8 (hex_zer 65)).toArray := by kernel_rfl
 rw [hz]
 have HA := Aside0.mk (HexAt.new w 171 .u8 (hex_zer 65))
 have HB := Aside0.mk ((Below.refl w.heap.size w).alloc (Nat.le_refl _) (.cells (nums .u8 (hex_zer 65)).toArray 171))
 refine (hex_tz _ (HB.out.cell (World.block_lt_of_cell? _ _ hc) |>.trans hc)).mono ?_
 rintro e w' ⟨rfl, n, rfl⟩
 go_wp2_with fail
 go_loopg [1, 13] 15 (fun kq v1 v13 w' => ∃ (x : Int) (j : Nat) (acc ys : List Int) (W : World), W = w' ∧ v1 = .int .u64 x ∧ v13 = .int .i64 (j : Int) ∧ Aside0 (j + acc.length = 65) ∧ Aside0 (0 ≤ x ∧ x < 16 ^ (kq + 1)) ∧ Aside0 (acc.length + kq = 15) ∧ Aside0 (D_hexOn kq x acc = D_hex u) ∧
   Aside0 (ys.length = 65) ∧ Aside0 (ys.drop j = acc) ∧ Aside0 (HexAt W w.heap.size 171 .u8 ys) ∧ Aside0 (Below w.heap.size w W))
 case atStart => exact ⟨u, 65, [], hex_zer 65, _, rfl, rfl, rfl, ⟨rfl⟩, ⟨h0, by omega⟩, ⟨rfl⟩, ⟨rfl⟩, ⟨hex_zer_len 65⟩, ⟨by simp [hex_zer]⟩, ⟨HA.out⟩, ⟨pw_below_drewN HB.out n⟩⟩
 obtain ⟨x, j, acc, ys, W, rfl, rfl, rfl, HJ, HX, HN, HD, HY, HT, HA1, HB1⟩ := hrel
 cases gk with
 | zero =>
  have hx : ¬ 16 ≤ x := by have := HX.out; omega
  obtain ⟨d, rfl⟩ : ∃ d : Nat, x = d := ⟨x.toNat, by have := HX.out; omega⟩
  have hI := hex_index d (by omega)
  obtain ⟨i, rfl⟩ : ∃ i, j = i + 1 := ⟨j - 1, by have := HJ.out; have := HN.out; omega⟩
  have hi65 : i < 65 := by have := HJ.out; omega
  have hcc : W.cell? ⟨w.heap.size, i, none⟩ = some (.int .u8 (rd ys i)) := by have := HA1.out.cell (i := (i : Int)) (by omega) (by rw [HY.out]; omega); rwa [Int.toNat_natCast] at this
  have hff := HA1.out.frozen i
  have hdec : decide ((d : Int) ≥ 16) = false := decide_eq_false (by omega)
  have hsl := hex_slice w.heap.size i hi65
  have hA2 : HexAt (W.setCell ⟨w.heap.size, i, none⟩ (.int .u8 (D_hexDig d))) w.heap.size 171 .u8 (ys.set i (D_hexDig d)) := by have := HA1.out.set (i : Int) (D_hexDig d); rwa [Int.toNat_natCast] at this
  have hxs : (ys.set i (D_hexDig d)).drop i = D_hex u := by
   rw [← HD.out, hex_exit _ _ _ hx, ← HT.out]
   exact hex_drop ys i _ (by rw [HY.out]; omega)
  have hcv := hex_conv w.heap.size i _ _ (by rw [List.length_set, HY.out]) hA2
  rw [hxs] at hcv
  have HB2 := Aside0.mk (below_set (g := w.heap.size) (j := i) (v := .int .u8 (D_hexDig d)) HB1.out (Nat.le_refl _))
  clear hA2 hxs
  go_wp2_with fail
  go_ret2
  exact ⟨rfl, HB2.out⟩
 | succ k1 =>
  by_cases hx : 16 ≤ x
  ·obtain ⟨d, rfl⟩ : ∃ d : Nat, x = d := ⟨x.toNat, by have := HX.out; omega⟩
   obtain ⟨i, rfl⟩ : ∃ i, j = i + 1 := ⟨j - 1, by have := HJ.out; have := HN.out; omega⟩
   have hi65 : i < 65 := by have := HJ.out; omega
   have hd0 : (0 : Int) ≤ d := by omega
   have hd1 : (d : Int) < 18446744073709551616 := hex_bound HX.out.2 HN.out
   have hI : ∀ W, (Instr.index 9 (.string { data := #[48, 49, 50, 51, 52, 53, 54, 55, 56, 57, 97, 98, 99, 100, 101, 102, 103, 104, 105, 106, 107, 108, 109, 110, 111, 112, 113, 114, 115, 116, 117, 118, 119, 120, 121, 122] }) (.int .u64 (bits .and .u64 (d : Int) 15))).run Tryz.prog W = .ok (.int .u8 (D_hexDig ((d : Int) % 16))) W := fun W => by
    rw [hex_and d hd0 hd1, show (d : Int) % 16 = ((d % 16 : Nat) : Int) by omega]
    exact hex_index (d % 16) (by omega) W
   have hdec : decide ((d : Int) ≥ 16) = true := decide_eq_true (by omega)
   have hcc : W.cell? ⟨w.heap.size, i, none⟩ = some (.int .u8 (rd ys i)) := by have := HA1.out.cell (i := (i : Int)) (by omega) (by rw [HY.out]; omega); rwa [Int.toNat_natCast] at this
   have hff := HA1.out.frozen i
   go_wp2_with fail
   go_roundg k1
   case measure => omega
   have hxd := HX.out
   have hpw : (16 : Int) ^ (k1 + 1 + 1) = 16 ^ (k1 + 1) * 16 := Int.pow_succ ..
   have hdd := HD.out
   simp only [D_hexOn] at hdd
   rw [if_pos hx] at hdd
   refine ⟨(d : Int) / 16, i, D_hexDig ((d : Int) % 16) :: acc, ys.set i (D_hexDig ((d : Int) % 16)), _, rfl, rfl, rfl, ⟨by have := HJ.out; simp only [List.length_cons]; omega⟩, ⟨by omega, by omega⟩, ⟨by have := HN.out; simp only [List.length_cons]; omega⟩, ⟨hdd⟩,
    ⟨by rw [List.length_set, HY.out]⟩, ⟨by rw [hex_drop ys i _ (by rw [HY.out]; omega), HT.out]⟩, ⟨by have := HA1.out.set (i : Int) (D_hexDig ((d : Int) % 16)); rwa [Int.toNat_natCast] at this⟩, ⟨below_set HB1.out (Nat.le_refl _)⟩⟩
  obtain ⟨d, rfl⟩ : ∃ d : Nat, x = d := ⟨x.toNat, by have := HX.out; omega⟩
  have hI := hex_index d (by omega)
  obtain ⟨i, rfl⟩ : ∃ i, j = i + 1 := ⟨j - 1, by have := HJ.out; have := HN.out; omega⟩
  have hi65 : i < 65 := by have := HJ.out; omega
  have hcc : W.cell? ⟨w.heap.size, i, none⟩ = some (.int .u8 (rd ys i)) := by have := HA1.out.cell (i := (i : Int)) (by omega) (by rw [HY.out]; omega); rwa [Int.toNat_natCast] at this
  have hff := HA1.out.frozen i
  have hdec : decide ((d : Int) ≥ 16) = false := decide_eq_false (by omega)
  have hsl := hex_slice w.heap.size i hi65
  have hA2 : HexAt (W.setCell ⟨w.heap.size, i, none⟩ (.int .u8 (D_hexDig d))) w.heap.size 171 .u8 (ys.set i (D_hexDig d)) := by have := HA1.out.set (i : Int) (D_hexDig d); rwa [Int.toNat_natCast] at this
  have hxs : (ys.set i (D_hexDig d)).drop i = D_hex u := by
   rw [← HD.out, hex_exit _ _ _ hx, ← HT.out]
   exact hex_drop ys i _ (by rw [HY.out]; omega)
  have hcv := hex_conv w.heap.size i _ _ (by rw [List.length_set, HY.out]) hA2
  rw [hxs] at hcv
  have HB2 := Aside0.mk (below_set (g := w.heap.size) (j := i) (v := .int .u8 (D_hexDig d)) HB1.out (Nat.le_refl _))
  clear hA2 hxs
  go_wp2_with fail
  go_ret2
  exact ⟨rfl, HB2.out⟩
set_option maxHeartbeats 8000000 in
set_option maxRecDepth 100000 in
theorem hex_uint (u : Int) (h0 : 0 ≤ u) (h1 : u < 18446744073709551616) (w : World) (hc : w.cell? ⟨7, 15, none⟩ = some (.int .u8 4)) :
  Calls Tryz.prog 100 #[.int .u64 u, .int .i64 16] w fun e w' => e = .returned (.string (strOfNums (D_hex u))) ∧ Below w.heap.size w w' := by
 have HB := Aside0.mk (Below.refl w.heap.size w)
 go_enter Tryz.func100, Tryz.ntmps100
 go_wp2_with fail
 refine (hex_bits u h0 h1 _ hc).mono ?_
 rintro e w' ⟨rfl, hb⟩
 go_wp2_with fail
 go_ret
 exact ⟨rfl, hb⟩
set_option maxHeartbeats 8000000 in
set_option maxRecDepth 100000 in
theorem hex_FormatUint (u : Int) (h0 : 0 ≤ u) (h1 : u < 18446744073709551616) (w : World) (hc : w.cell? ⟨7, 15, none⟩ = some (.int .u8 4)) :
  Calls Tryz.prog 78 #[.int .u64 u, .int .i64 16] w fun e w' => e = .returned (.string (strOfNums (D_hex u))) ∧ Below w.heap.size w w' := by
 go_enter Tryz.func78, Tryz.ntmps78
 go_wp2_with fail
 refine (hex_uint u h0 h1 _ hc).mono ?_
 rintro e w' ⟨rfl, hb⟩
 go_wp2_with fail
 go_ret
 exact ⟨rfl, hb⟩
def strconv_FormatUint.f (a0 : Int) (a1 : Int) : Option (ByteArray) := if a1 = 16 then (if 0 ≤ a0 then (if a0 < 18446744073709551616 then (some (strOfNums (D_hex a0))) else (none)) else (none)) else (none)
theorem strconv_FormatUint.calls (a0 : Int) (a1 : Int) (r : ByteArray) (w : World) (h : strconv_FormatUint.f a0 a1 = some r) (hT : Tab10 w) :
  Calls Tryz.prog 78 #[.int .u64 a0, .int .i64 a1] w fun e w' => e = .returned (.string r) ∧ Below w.heap.size w w' := by
 unfold strconv_FormatUint.f at h
 by_cases h1 : a1 = 16
 ·by_cases h2 : 0 ≤ a0
  ·by_cases h3 : a0 < 18446744073709551616
   ·rw [if_pos h1, if_pos h2, if_pos h3] at h
    obtain rfl := Option.some.inj h
    subst h1
    exact hex_FormatUint a0 h2 h3 w hT.hex
   rw [if_pos h1, if_pos h2, if_neg h3] at h; simp at h
  rw [if_pos h1, if_neg h2] at h; simp at h
 rw [if_neg h1] at h; simp at h


/-! ### strings_Repeat: function 79 -/
def strings_Repeat.f (a0 : ByteArray) (a1 : Int) : Option (ByteArray) := if 0 ≤ a1 then (if a1 ≤ 9223372036854775807 then (if a0.size * a1.toNat ≤ 140737488355328 then (some ⟨(Lib.repeatL a0.data.toList a1.toNat).toArray⟩) else (none)) else (none)) else (none)
theorem strings_Repeat.calls (a0 : ByteArray) (a1 : Int) (r : ByteArray) (w : World) (h : strings_Repeat.f a0 a1 = some r) :
  Calls Tryz.prog 79 #[.string a0, .int .i64 a1] w fun e w' => e = .returned (.string r) ∧ Below w.heap.size w w' := by
 unfold strings_Repeat.f at h
 by_cases h1 : 0 ≤ a1
 ·by_cases h2 : a1 ≤ 9223372036854775807
  ·by_cases h3 : a0.size * a1.toNat ≤ 140737488355328
   ·rw [if_pos h1, if_pos h2, if_pos h3] at h
    obtain rfl := Option.some.inj h
    obtain ⟨n, rfl⟩ : ∃ n : Nat, a1 = n := ⟨a1.toNat, by omega⟩
    exact Any.strings_Repeat Tryz.lays105 Tryz.Builder_Extra_105 a0 n w (by omega) (by simpa using h3)
   rw [if_pos h1, if_pos h2, if_neg h3] at h; simp at h
  rw [if_pos h1, if_neg h2] at h; simp at h
 rw [if_neg h1] at h; simp at h


end Go.Proofs.YtjonocgmofcieaaGreatDoor.Q
