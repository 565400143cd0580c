-- Written by wip/mk.py of this repository (a run of the kit's print with hand-proved leaves added); Lean checks it.
import Derived.Test.YtcimollhdocphaaQx0
import Derived.Test.YtcimollhdocphaaQx20
import Derived.Test.YtcimollhdocphaaQx21
import Derived.Test.YtcimollhdocphaaQx22
import Derived.Test.YtcimollhdocphaaQx23
import Derived.Test.YtcimollhdocphaaQx37
namespace Go.Proofs.Ytcimollhdocphaa.Q
open Go.RowKit Go.Proofs.YtcimollhdocphaaW.PrintWords Go.Proofs.YtcimollhdocphaaW.PrintLast Go.Proofs.YtcimollhdocphaaW.PrintMore
attribute [local go_sem] max2_int min2_int max_two min_two max_three min_three max_four min_four   -- for this text's walks alone
set_option linter.unusedVariables false
set_option linter.unusedSimpArgs false

/-! ### laws_FnExactDoActs: function 10 -/
def laws_FnExactDoActs.j0 : Nat → List (S163) → List (S161) → Bool → Option (Bool)
  | 0, _, _, _ => none
  | k + 1, x2, x10, x47 => if x47 = true then (some false) else ((laws_toActS.f k x2).bind fun t819 => ((laws_eqActS.f k x10 t819).bind fun t822 => (if t822 = true then (some true) else (some false))))
def laws_FnExactDoActs.f (k : Nat) (a0_0 : Int) (a0_1 : Int) (a0_2 : Int) (a0_3 : Int) (a1_0 : Int) (a1_1 : Int) (a1_2 : Int) (l2 : List (S163)) : Option (Bool) := (laws_szActS.f l2 1048576).bind fun t787 => (if t787 < 0 then (some true) else ((laws_toDeveloper.f a0_0 a0_1 a0_2 a0_3).bind fun bt788 => ((laws_toBath.f a1_0 a1_1 a1_2).bind fun bt792 => ((laws_toActS.f k l2).bind fun t795 => ((spec_DoActs.f k bt788.1 bt788.2.1 bt788.2.2.1 bt788.2.2.2 bt792.1 bt792.2.1 bt792.2.2 t795).bind fun bt798 => ((laws_toActS.f k l2).bind fun t803 => ((laws_toDeveloper.f a0_0 a0_1 a0_2 a0_3).bind fun bt806 => ((laws_toBath.f a1_0 a1_1 a1_2).bind fun bt810 => ((impl_DoActs.f k bt806.1 bt806.2.1 bt806.2.2.1 bt806.2.2.2 bt810.1 bt810.2.1 bt810.2.2 t803).bind fun bt813 => ((laws_eqBath.f bt813.1 bt813.2.1 bt813.2.2.1 bt798.1 bt798.2.1 bt798.2.2.1).bind fun t818 => (if t818 = true then (laws_FnExactDoActs.j0 k l2 t803 (bt813.2.2.2 != bt798.2.2.2)) else (laws_FnExactDoActs.j0 k l2 t803 true))))))))))))
theorem laws_FnExactDoActs.mono_l : ∀ k, (∀ y0 y1 y2, LeO (laws_FnExactDoActs.j0 k y0 y1 y2) (laws_FnExactDoActs.j0 (k + 1) y0 y1 y2))
  | 0 => fun _ _ _ r h => by simp [laws_FnExactDoActs.j0] at h
  | k + 1 => by
    have ih0 := laws_FnExactDoActs.mono_l k
    · intro y0 y1 y2
      unfold laws_FnExactDoActs.j0
      repeat' first
      | (with_reducible exact ih0 _ _ _)
      | (with_reducible exact impl_DoActs.mono _ _ _ _ _ _ _ _ _)
      | (with_reducible exact laws_eqActS.mono _ _ _)
      | (with_reducible exact laws_toActS.mono _ _)
      | (with_reducible exact spec_DoActs.mono _ _ _ _ _ _ _ _ _)
      | (with_reducible exact LeO.refl _)
      | (with_reducible exact LeO.none _)
      | (with_reducible refine LeO.ite ?_ ?_)
      | (with_reducible refine LeO.bind ?_ (fun _ => ?_))
      | exact ih0 _ _ _
      | exact impl_DoActs.mono _ _ _ _ _ _ _ _ _
      | exact laws_eqActS.mono _ _ _
      | exact laws_toActS.mono _ _
      | exact spec_DoActs.mono _ _ _ _ _ _ _ _ _
      | exact LeO.none _
      | refine LeO.ite ?_ ?_
      | refine LeO.bind ?_ (fun _ => ?_)
theorem laws_FnExactDoActs.mono : ∀ a0 a1 a2 a3 a4 a5 a6 a7 k, LeO (laws_FnExactDoActs.f k a0 a1 a2 a3 a4 a5 a6 a7) (laws_FnExactDoActs.f (k + 1) a0 a1 a2 a3 a4 a5 a6 a7) := by
  intro a0 a1 a2 a3 a4 a5 a6 a7 k
  have ih0 := laws_FnExactDoActs.mono_l k
  unfold laws_FnExactDoActs.f
  repeat' first
      | (with_reducible exact ih0 _ _ _)
      | (with_reducible exact impl_DoActs.mono _ _ _ _ _ _ _ _ _)
      | (with_reducible exact laws_eqActS.mono _ _ _)
      | (with_reducible exact laws_toActS.mono _ _)
      | (with_reducible exact spec_DoActs.mono _ _ _ _ _ _ _ _ _)
      | (with_reducible exact LeO.refl _)
      | (with_reducible exact LeO.none _)
      | (with_reducible refine LeO.ite ?_ ?_)
      | (with_reducible refine LeO.bind ?_ (fun _ => ?_))
      | exact ih0 _ _ _
      | exact impl_DoActs.mono _ _ _ _ _ _ _ _ _
      | exact laws_eqActS.mono _ _ _
      | exact laws_toActS.mono _ _
      | exact spec_DoActs.mono _ _ _ _ _ _ _ _ _
      | exact LeO.none _
      | refine LeO.ite ?_ ?_
      | refine LeO.bind ?_ (fun _ => ?_)
def laws_FnExactDoActs.T5 : Bool × List (List Nat × List Nat) := (true, [([], []), ([0], [0]), ([], []), ([2, 1], [2]), ([], []), ([4, 3], [4]), ([1, 3, 5, 5], [1, 3, 5]), ([6], [6]), ([7], [7]), ([7], [7]), ([], []), ([10, 8, 6, 0, 1, 2, 3, 4, 5, 6, 7, 8, 10], [8, 10]), ([9, 11, 0, 1, 2, 3, 4, 5, 6, 7, 8, 9, 10, 11], [9])])
def laws_FnExactDoActs.B5 : List Nat := [0, 1, 0, 7, 0, 31, 63, 127, 255, 255, 0, 1535, 4095]
theorem laws_FnExactDoActs.tab5 : rtab .any (opsOf Try.f10 5) = laws_FnExactDoActs.T5 := by kernel_rfl
theorem laws_FnExactDoActs.bits5 : waitsOk laws_FnExactDoActs.T5.2 laws_FnExactDoActs.B5 = true := by kernel_rfl
def laws_FnExactDoActs.T7 : Bool × List (List Nat × List Nat) := (true, [([], []), ([0], [0]), ([], []), ([2, 1], [2]), ([], []), ([1, 3, 4, 3], [1, 3, 4]), ([5], [5]), ([6], [6]), ([6], [6]), ([], []), ([9, 7, 5, 0, 1, 2, 3, 4, 5, 6, 7, 9], [7, 9]), ([8, 10, 0, 1, 2, 3, 4, 5, 6, 7, 8, 9, 10], [8])])
def laws_FnExactDoActs.B7 : List Nat := [0, 1, 0, 7, 0, 31, 63, 127, 127, 0, 767, 2047]
theorem laws_FnExactDoActs.tab7 : rtab .any (opsOf Try.f10 7) = laws_FnExactDoActs.T7 := by kernel_rfl
theorem laws_FnExactDoActs.bits7 : waitsOk laws_FnExactDoActs.T7.2 laws_FnExactDoActs.B7 = true := by kernel_rfl
set_option maxHeartbeats 8000000 in
set_option maxRecDepth 100000 in
theorem laws_FnExactDoActs.calls (k : Nat) (a0_0 : Int) (a0_1 : Int) (a0_2 : Int) (a0_3 : Int) (a1_0 : Int) (a1_1 : Int) (a1_2 : Int) (A2 : Option Addr) (c2 : Nat) (l2 : List (S163)) (r : Bool) (w : World) (hr2 : Kd.C k163 w A2 l2.length l2) (hc2 : l2.length ≤ c2) (h : laws_FnExactDoActs.f k a0_0 a0_1 a0_2 a0_3 a1_0 a1_1 a1_2 l2 = some r) (hT_ : Aside0 (r = true)) :
    Calls Try.prog 10 #[.agg #[.int .i64 a0_0, .int .i64 a0_1, .int .i8 a0_2, .int .i8 a0_3], .agg #[.int .i64 a1_0, .int .i64 a1_1, .int .i64 a1_2], .slice A2 l2.length c2] w fun e w' => e = .returned (.bool r) ∧ Below w.heap.size w w' := by
  have hu92 := Try.underlying92
  have hu93 := Try.underlying93
  have hu73 := Try.underlying73
  have HR2 := Aside0.mk hr2
  have HC2 := Aside0.mk hc2
  clear hr2 hc2
  have HB := Aside0.mk (Below.refl w.heap.size w)
  have H : ((laws_szActS.f l2 1048576).bind fun t787 => (if t787 < 0 then (some true) else ((laws_toDeveloper.f a0_0 a0_1 a0_2 a0_3).bind fun bt788 => ((laws_toBath.f a1_0 a1_1 a1_2).bind fun bt792 => ((laws_toActS.f k l2).bind fun t795 => ((spec_DoActs.f k bt788.1 bt788.2.1 bt788.2.2.1 bt788.2.2.2 bt792.1 bt792.2.1 bt792.2.2 t795).bind fun bt798 => ((laws_toActS.f k l2).bind fun t803 => ((laws_toDeveloper.f a0_0 a0_1 a0_2 a0_3).bind fun bt806 => ((laws_toBath.f a1_0 a1_1 a1_2).bind fun bt810 => ((impl_DoActs.f k bt806.1 bt806.2.1 bt806.2.2.1 bt806.2.2.2 bt810.1 bt810.2.1 bt810.2.2 t803).bind fun bt813 => ((laws_eqBath.f bt813.1 bt813.2.1 bt813.2.2.1 bt798.1 bt798.2.1 bt798.2.2.1).bind fun t818 => (if t818 = true then (laws_FnExactDoActs.j0 k l2 t803 (bt813.2.2.2 != bt798.2.2.2)) else (laws_FnExactDoActs.j0 k l2 t803 true))))))))))))) = some r := h
  clear h
  replace H := Option.bind_eq_some_iff.mp H
  obtain ⟨t787, A40, H⟩ := H
  replace H : (if t787 < 0 then (some true) else ((laws_toDeveloper.f a0_0 a0_1 a0_2 a0_3).bind fun bt788 => ((laws_toBath.f a1_0 a1_1 a1_2).bind fun bt792 => ((laws_toActS.f k l2).bind fun t795 => ((spec_DoActs.f k bt788.1 bt788.2.1 bt788.2.2.1 bt788.2.2.2 bt792.1 bt792.2.1 bt792.2.2 t795).bind fun bt798 => ((laws_toActS.f k l2).bind fun t803 => ((laws_toDeveloper.f a0_0 a0_1 a0_2 a0_3).bind fun bt806 => ((laws_toBath.f a1_0 a1_1 a1_2).bind fun bt810 => ((impl_DoActs.f k bt806.1 bt806.2.1 bt806.2.2.1 bt806.2.2.2 bt810.1 bt810.2.1 bt810.2.2 t803).bind fun bt813 => ((laws_eqBath.f bt813.1 bt813.2.1 bt813.2.2.1 bt798.1 bt798.2.1 bt798.2.2.1).bind fun t818 => (if t818 = true then (laws_FnExactDoActs.j0 k l2 t803 (bt813.2.2.2 != bt798.2.2.2)) else (laws_FnExactDoActs.j0 k l2 t803 true)))))))))))) = some r := H
  have A4 := Aside0.mk A40
  clear A40
  by_cases c5 : t787 < 0
  · rw [if_pos c5] at H
    have c5b0 : decide (t787 < 0) = true := decide_eq_true c5
    clear c5
    obtain rfl := Option.some.inj H
    go_enter Try.func10, Try.ntmps10
    go_wp2_with (first | ((with_reducible refine gate_dst (N := 3) rfl ?_); refine box_event ?hg (N := 3) ?hd (cs := #[.int .i64 a0_0, .int .i64 a0_1, .int .i8 a0_2, .int .i8 a0_3]) (t := 92) ?hr ?_; (case hd => rfl); (case hg => rfl); (case hr => first | (go_simp; done) | (go_simp; rfl)); intro gb785 hg w6 hbox hb; have n0_ := Aside0.mk (below_step HB.out hb); have n1_ := Aside0.mk (hbox); have n2_ := Aside0.mk ((by rw [hg]; exact (below_size HB.out) : w.heap.size ≤ gb785)); have n3_ := Aside0.mk ((by rw [hg]; exact (below_size HB.out) : w.heap.size ≤ gb785)); clear HB; have HB := n0_; have BK785 := n1_; have GW785 := n2_; have GE785 := n3_; clear n0_ n1_ n2_ n3_; clear hb hbox hg) | ((with_reducible refine gate_dst (N := 4) rfl ?_); refine box_event ?hg (N := 4) ?hd (cs := #[.int .i64 a1_0, .int .i64 a1_1, .int .i64 a1_2]) (t := 93) ?hr ?_; (case hd => rfl); (case hg => rfl); (case hr => first | (go_simp; done) | (go_simp; rfl)); intro gb786 hg w7 hbox hb; have n0_ := Aside0.mk (blk_below BK785.out hb); have n1_ := Aside0.mk (below_step HB.out hb); have n2_ := Aside0.mk (hbox); have n3_ := Aside0.mk ((by rw [hg]; exact (below_size HB.out) : w.heap.size ≤ gb786)); have n4_ := Aside0.mk ((by rw [hg]; exact (below_size HB.out) : w.heap.size ≤ gb786)); have n5_ := Aside0.mk ((by rw [hg]; exact Nat.ne_of_lt (blk_lt BK785.out) : gb785 ≠ gb786)); have n6_ := Aside0.mk ((by rw [hg]; exact Nat.ne_of_gt (blk_lt BK785.out) : gb786 ≠ gb785)); clear BK785; clear HB; have BK785 := n0_; have HB := n1_; have BK786 := n2_; have GW786 := n3_; have GE786 := n4_; have NB785_786 := n5_; have NB786_785 := n6_; clear n0_ n1_ n2_ n3_ n4_ n5_ n6_; clear hb hbox hg) | ((with_reducible refine gate_callee (f := 69) rfl ?_); refine goesL_ (some 15) rfl rfl Try.func69 (by kernel_rfl) rfl #[.slice A2 l2.length c2, .int .i64 1048576] rfl (by (try simp only [List.map_toArray, List.map_cons, List.map_nil]); first | done | rfl | (simp only [List.length_drop, List.length_take]; rfl)) ?_; (with_reducible refine (laws_szActS.calls _ _ l2 1048576 t787 _ ?side1 ?side2 A4.out).mono ?_); (case side1 => repeat (first | exact (Kd.C_below HR2.out HB.out) | (with_reducible refine Kd.C_alloc ?_ _) | (with_reducible refine Kd.C_drewN ?_ _) | (with_reducible refine Kd.C_drew ?_))); (case side2 => exact HC2.out); rintro e w' ⟨rfl, ⟨nd, rfl⟩⟩; refine ⟨_, rfl, ?_⟩))
    go_ret
    exact ⟨by first | rfl | (simp [errW_none, errW_some] <;> rfl) | (simp [*, errW_none, errW_some] <;> rfl), by repeat (first | (with_reducible first | exact HB.out | apply below_alloc | apply pw_below_drewN | apply below_drew1 | refine below_set ?_ GE785.out | refine below_set ?_ GE786.out) | exact HB.out)⟩
  · rw [if_neg c5] at H
    have c5b0 : decide (t787 < 0) = false := decide_eq_false c5
    clear c5
    replace H := Option.bind_eq_some_iff.mp H
    obtain ⟨⟨t788, t789, t790, t791⟩, A80, H⟩ := H
    replace H : ((laws_toBath.f a1_0 a1_1 a1_2).bind fun bt792 => ((laws_toActS.f k l2).bind fun t795 => ((spec_DoActs.f k t788 t789 t790 t791 bt792.1 bt792.2.1 bt792.2.2 t795).bind fun bt798 => ((laws_toActS.f k l2).bind fun t803 => ((laws_toDeveloper.f a0_0 a0_1 a0_2 a0_3).bind fun bt806 => ((laws_toBath.f a1_0 a1_1 a1_2).bind fun bt810 => ((impl_DoActs.f k bt806.1 bt806.2.1 bt806.2.2.1 bt806.2.2.2 bt810.1 bt810.2.1 bt810.2.2 t803).bind fun bt813 => ((laws_eqBath.f bt813.1 bt813.2.1 bt813.2.2.1 bt798.1 bt798.2.1 bt798.2.2.1).bind fun t818 => (if t818 = true then (laws_FnExactDoActs.j0 k l2 t803 (bt813.2.2.2 != bt798.2.2.2)) else (laws_FnExactDoActs.j0 k l2 t803 true)))))))))) = some r := H
    have A8 := Aside0.mk A80
    clear A80
    replace H := Option.bind_eq_some_iff.mp H
    obtain ⟨⟨t792, t793, t794⟩, A90, H⟩ := H
    replace H : ((laws_toActS.f k l2).bind fun t795 => ((spec_DoActs.f k t788 t789 t790 t791 t792 t793 t794 t795).bind fun bt798 => ((laws_toActS.f k l2).bind fun t803 => ((laws_toDeveloper.f a0_0 a0_1 a0_2 a0_3).bind fun bt806 => ((laws_toBath.f a1_0 a1_1 a1_2).bind fun bt810 => ((impl_DoActs.f k bt806.1 bt806.2.1 bt806.2.2.1 bt806.2.2.2 bt810.1 bt810.2.1 bt810.2.2 t803).bind fun bt813 => ((laws_eqBath.f bt813.1 bt813.2.1 bt813.2.2.1 bt798.1 bt798.2.1 bt798.2.2.1).bind fun t818 => (if t818 = true then (laws_FnExactDoActs.j0 k l2 t803 (bt813.2.2.2 != bt798.2.2.2)) else (laws_FnExactDoActs.j0 k l2 t803 true))))))))) = some r := H
    have A9 := Aside0.mk A90
    clear A90
    replace H := Option.bind_eq_some_iff.mp H
    obtain ⟨t795, A100, H⟩ := H
    replace H : ((spec_DoActs.f k t788 t789 t790 t791 t792 t793 t794 t795).bind fun bt798 => ((laws_toActS.f k l2).bind fun t803 => ((laws_toDeveloper.f a0_0 a0_1 a0_2 a0_3).bind fun bt806 => ((laws_toBath.f a1_0 a1_1 a1_2).bind fun bt810 => ((impl_DoActs.f k bt806.1 bt806.2.1 bt806.2.2.1 bt806.2.2.2 bt810.1 bt810.2.1 bt810.2.2 t803).bind fun bt813 => ((laws_eqBath.f bt813.1 bt813.2.1 bt813.2.2.1 bt798.1 bt798.2.1 bt798.2.2.1).bind fun t818 => (if t818 = true then (laws_FnExactDoActs.j0 k l2 t803 (bt813.2.2.2 != bt798.2.2.2)) else (laws_FnExactDoActs.j0 k l2 t803 true)))))))) = some r := H
    have A10 := Aside0.mk A100
    clear A100
    replace H := Option.bind_eq_some_iff.mp H
    obtain ⟨⟨t798, t799, t800, t801⟩, A110, H⟩ := H
    replace H : ((laws_toActS.f k l2).bind fun t803 => ((laws_toDeveloper.f a0_0 a0_1 a0_2 a0_3).bind fun bt806 => ((laws_toBath.f a1_0 a1_1 a1_2).bind fun bt810 => ((impl_DoActs.f k bt806.1 bt806.2.1 bt806.2.2.1 bt806.2.2.2 bt810.1 bt810.2.1 bt810.2.2 t803).bind fun bt813 => ((laws_eqBath.f bt813.1 bt813.2.1 bt813.2.2.1 t798 t799 t800).bind fun t818 => (if t818 = true then (laws_FnExactDoActs.j0 k l2 t803 (bt813.2.2.2 != t801)) else (laws_FnExactDoActs.j0 k l2 t803 true))))))) = some r := H
    have A11 := Aside0.mk A110
    clear A110
    replace H := Option.bind_eq_some_iff.mp H
    obtain ⟨t803, A120, H⟩ := H
    replace H : ((laws_toDeveloper.f a0_0 a0_1 a0_2 a0_3).bind fun bt806 => ((laws_toBath.f a1_0 a1_1 a1_2).bind fun bt810 => ((impl_DoActs.f k bt806.1 bt806.2.1 bt806.2.2.1 bt806.2.2.2 bt810.1 bt810.2.1 bt810.2.2 t803).bind fun bt813 => ((laws_eqBath.f bt813.1 bt813.2.1 bt813.2.2.1 t798 t799 t800).bind fun t818 => (if t818 = true then (laws_FnExactDoActs.j0 k l2 t803 (bt813.2.2.2 != t801)) else (laws_FnExactDoActs.j0 k l2 t803 true)))))) = some r := H
    have A12 := Aside0.mk A120
    clear A120
    replace H := Option.bind_eq_some_iff.mp H
    obtain ⟨⟨t806, t807, t808, t809⟩, A130, H⟩ := H
    replace H : ((laws_toBath.f a1_0 a1_1 a1_2).bind fun bt810 => ((impl_DoActs.f k t806 t807 t808 t809 bt810.1 bt810.2.1 bt810.2.2 t803).bind fun bt813 => ((laws_eqBath.f bt813.1 bt813.2.1 bt813.2.2.1 t798 t799 t800).bind fun t818 => (if t818 = true then (laws_FnExactDoActs.j0 k l2 t803 (bt813.2.2.2 != t801)) else (laws_FnExactDoActs.j0 k l2 t803 true))))) = some r := H
    have A13 := Aside0.mk A130
    clear A130
    replace H := Option.bind_eq_some_iff.mp H
    obtain ⟨⟨t810, t811, t812⟩, A140, H⟩ := H
    replace H : ((impl_DoActs.f k t806 t807 t808 t809 t810 t811 t812 t803).bind fun bt813 => ((laws_eqBath.f bt813.1 bt813.2.1 bt813.2.2.1 t798 t799 t800).bind fun t818 => (if t818 = true then (laws_FnExactDoActs.j0 k l2 t803 (bt813.2.2.2 != t801)) else (laws_FnExactDoActs.j0 k l2 t803 true)))) = some r := H
    have A14 := Aside0.mk A140
    clear A140
    replace H := Option.bind_eq_some_iff.mp H
    obtain ⟨⟨t813, t814, t815, t816⟩, A150, H⟩ := H
    replace H : ((laws_eqBath.f t813 t814 t815 t798 t799 t800).bind fun t818 => (if t818 = true then (laws_FnExactDoActs.j0 k l2 t803 (t816 != t801)) else (laws_FnExactDoActs.j0 k l2 t803 true))) = some r := H
    have A15 := Aside0.mk A150
    clear A150
    have HC16 := Aside0.mk H
    clear H
    go_enter Try.func10, Try.ntmps10
    try go_wp2_with (first | ((with_reducible refine gate_dst (N := 3) rfl ?_); refine box_event ?hg (N := 3) ?hd (cs := #[.int .i64 a0_0, .int .i64 a0_1, .int .i8 a0_2, .int .i8 a0_3]) (t := 92) ?hr ?_; (case hd => rfl); (case hg => rfl); (case hr => first | (go_simp; done) | (go_simp; rfl)); intro gb785 hg w17 hbox hb; have n0_ := Aside0.mk (below_step (by repeat (first | (with_reducible first | exact HB.out | apply below_alloc | apply pw_below_drewN | apply below_drew1) | exact HB.out)) hb); have n1_ := Aside0.mk (hbox); have n2_ := Aside0.mk ((by rw [hg]; exact (below_size (by repeat (first | (with_reducible first | exact HB.out | apply below_alloc | apply pw_below_drewN | apply below_drew1) | exact HB.out))) : w.heap.size ≤ gb785)); have n3_ := Aside0.mk ((by rw [hg]; exact (below_size (by repeat (first | (with_reducible first | exact HB.out | apply below_alloc | apply pw_below_drewN | apply below_drew1) | exact HB.out))) : w.heap.size ≤ gb785)); clear HB; have HB := n0_; have BK785 := n1_; have GW785 := n2_; have GE785 := n3_; clear n0_ n1_ n2_ n3_; clear hb hbox hg) | ((with_reducible refine gate_dst (N := 4) rfl ?_); refine box_event ?hg (N := 4) ?hd (cs := #[.int .i64 a1_0, .int .i64 a1_1, .int .i64 a1_2]) (t := 93) ?hr ?_; (case hd => rfl); (case hg => rfl); (case hr => first | (go_simp; done) | (go_simp; rfl)); intro gb786 hg w18 hbox hb; have n0_ := Aside0.mk (blk_below (g := gb785) (o := .cells #[.int .i64 a0_0, .int .i64 a0_1, .int .i8 a0_2, .int .i8 a0_3] 92 (0, 0)) (by (with_reducible repeat (first | refine blk_drewN ?_ _ | refine blk_drew ?_ | refine blk_alloc ?_ _)); exact BK785.out) hb); have n1_ := Aside0.mk (below_step (by repeat (first | (with_reducible first | exact HB.out | apply below_alloc | apply pw_below_drewN | apply below_drew1 | refine below_set ?_ GE785.out) | exact HB.out)) hb); have n2_ := Aside0.mk (hbox); have n3_ := Aside0.mk ((by rw [hg]; exact (below_size (by repeat (first | (with_reducible first | exact HB.out | apply below_alloc | apply pw_below_drewN | apply below_drew1 | refine below_set ?_ GE785.out) | exact HB.out))) : w.heap.size ≤ gb786)); have n4_ := Aside0.mk ((by rw [hg]; exact (below_size (by repeat (first | (with_reducible first | exact HB.out | apply below_alloc | apply pw_below_drewN | apply below_drew1 | refine below_set ?_ GE785.out) | exact HB.out))) : w.heap.size ≤ gb786)); have n5_ := Aside0.mk ((by rw [hg]; exact Nat.ne_of_lt (blk_lt (g := gb785) (o := .cells #[.int .i64 a0_0, .int .i64 a0_1, .int .i8 a0_2, .int .i8 a0_3] 92 (0, 0)) (by (with_reducible repeat (first | refine blk_drewN ?_ _ | refine blk_drew ?_ | refine blk_alloc ?_ _)); exact BK785.out)) : gb785 ≠ gb786)); have n6_ := Aside0.mk ((by rw [hg]; exact Nat.ne_of_gt (blk_lt (g := gb785) (o := .cells #[.int .i64 a0_0, .int .i64 a0_1, .int .i8 a0_2, .int .i8 a0_3] 92 (0, 0)) (by (with_reducible repeat (first | refine blk_drewN ?_ _ | refine blk_drew ?_ | refine blk_alloc ?_ _)); exact BK785.out)) : gb786 ≠ gb785)); clear BK785; clear HB; have BK785 := n0_; have HB := n1_; have BK786 := n2_; have GW786 := n3_; have GE786 := n4_; have NB785_786 := n5_; have NB786_785 := n6_; clear n0_ n1_ n2_ n3_ n4_ n5_ n6_; clear hb hbox hg) | ((with_reducible refine gate_callee (f := 69) rfl ?_); refine goesL_ (some 15) rfl rfl Try.func69 (by kernel_rfl) rfl #[.slice A2 l2.length c2, .int .i64 1048576] rfl (by (try simp only [List.map_toArray, List.map_cons, List.map_nil]); first | done | rfl | (simp only [List.length_drop, List.length_take]; rfl)) ?_; (with_reducible refine (laws_szActS.calls _ _ l2 1048576 t787 _ ?side1 ?side2 A4.out).mono ?_); (case side1 => repeat (first | exact (Kd.C_below HR2.out HB.out) | (with_reducible refine Kd.C_alloc ?_ _) | (with_reducible refine Kd.C_drewN ?_ _) | (with_reducible refine Kd.C_drew ?_))); (case side2 => exact HC2.out); rintro e w' ⟨rfl, ⟨nd, rfl⟩⟩; refine ⟨_, rfl, ?_⟩; (try (rw [drewN_self w18]; generalize hq_ : World.drewN w18 _ = w18; have n0_ : Aside0 (w18.heap[gb785]? = some (.cells #[.int .i64 a0_0, .int .i64 a0_1, .int .i8 a0_2, .int .i8 a0_3] 92 (0, 0))) := ⟨by rw [← hq_]; exact (by (with_reducible repeat (first | refine blk_drewN ?_ _ | refine blk_drew ?_ | refine blk_alloc ?_ _)); exact BK785.out)⟩; have n1_ : Aside0 (w18.heap[gb786]? = some (.cells #[.int .i64 a1_0, .int .i64 a1_1, .int .i64 a1_2] 93 (0, 0))) := ⟨by rw [← hq_]; exact (by (with_reducible repeat (first | refine blk_drewN ?_ _ | refine blk_drew ?_ | refine blk_alloc ?_ _)); exact BK786.out)⟩; have n2_ : Aside0 (Below w.heap.size w w18) := ⟨by rw [← hq_]; exact (by repeat (first | (with_reducible first | exact HB.out | apply below_alloc | apply pw_below_drewN | apply below_drew1 | refine below_set ?_ GE785.out | refine below_set ?_ GE786.out) | exact HB.out))⟩; clear BK785 BK786 HB hq_; have BK785 := n0_; have BK786 := n1_; have HB := n2_; clear n0_ n1_ n2_; have hcR785_0 : w18.cell? ⟨gb785, 0, none⟩ = some (.int .i64 a0_0) := (blk_cell BK785.out 0).trans rfl; have hfR785_0 := blk_frozen BK785.out 0; have hcR785_1 : w18.cell? ⟨gb785, 1, none⟩ = some (.int .i64 a0_1) := (blk_cell BK785.out 1).trans rfl; have hfR785_1 := blk_frozen BK785.out 1; have hcR785_2 : w18.cell? ⟨gb785, 2, none⟩ = some (.int .i8 a0_2) := (blk_cell BK785.out 2).trans rfl; have hfR785_2 := blk_frozen BK785.out 2; have hcR785_3 : w18.cell? ⟨gb785, 3, none⟩ = some (.int .i8 a0_3) := (blk_cell BK785.out 3).trans rfl; have hfR785_3 := blk_frozen BK785.out 3; have hcR786_0 : w18.cell? ⟨gb786, 0, none⟩ = some (.int .i64 a1_0) := (blk_cell BK786.out 0).trans rfl; have hfR786_0 := blk_frozen BK786.out 0; have hcR786_1 : w18.cell? ⟨gb786, 1, none⟩ = some (.int .i64 a1_1) := (blk_cell BK786.out 1).trans rfl; have hfR786_1 := blk_frozen BK786.out 1; have hcR786_2 : w18.cell? ⟨gb786, 2, none⟩ = some (.int .i64 a1_2) := (blk_cell BK786.out 2).trans rfl; have hfR786_2 := blk_frozen BK786.out 2))))
    have n0_ := Aside0.mk (blk_drew BK785.out)
    have n1_ := Aside0.mk (blk_drew BK786.out)
    have n2_ := Aside0.mk (below_drew1 HB.out)
    clear BK785
    clear BK786
    clear HB
    have BK785 := n0_
    have BK786 := n1_
    have HB := n2_
    clear n0_ n1_ n2_
    refine start_ (n := 13) (S := fun w' => w'.cell? ⟨gb785, 0, none⟩ = some (.int .i64 a0_0) ∧ w'.cell? ⟨gb785, 1, none⟩ = some (.int .i64 a0_1) ∧ w'.cell? ⟨gb785, 2, none⟩ = some (.int .i8 a0_2) ∧ w'.cell? ⟨gb785, 3, none⟩ = some (.int .i8 a0_3) ∧ w'.cell? ⟨gb786, 0, none⟩ = some (.int .i64 a1_0) ∧ w'.cell? ⟨gb786, 1, none⟩ = some (.int .i64 a1_1) ∧ w'.cell? ⟨gb786, 2, none⟩ = some (.int .i64 a1_2)) (ds := []) #[false, false, false, false, false, false, false, false, false, false, false, false, false] (by kernel_rfl) rfl rfl ⟨(blk_cell BK785.out 0).trans rfl, (blk_cell BK785.out 1).trans rfl, (blk_cell BK785.out 2).trans rfl, (blk_cell BK785.out 3).trans rfl, (blk_cell BK786.out 0).trans rfl, (blk_cell BK786.out 1).trans rfl, (blk_cell BK786.out 2).trans rfl⟩ (fun hHeld => ?_); refine with_tabW laws_FnExactDoActs.tab5 laws_FnExactDoActs.bits5 (fun HT_ HW_ => ?_)
    generalize w18.drew = w19 at BK785 BK786 HB hHeld ⊢
    refine pure_ (i := 4) (N := some 23) (v := ?_) (a' := ?_) #[false, false, false, false, true, false, false, false, false, false, false, false, false] rfl rfl (any_of HT_.out (by kernel_rfl)) (fun _ _ _ h => h) (Or.inl ⟨by rfl, ?_⟩) ?_ ?_
    rotate_left
    · intro w'
      go_simp
      with_reducible rfl
    rotate_left
    · simp only [Act.put, List.setIfInBounds_toArray, List.set_cons_zero, List.set_cons_succ, i64_w, i32_w]
      rfl
    refine take_ (i := 0) (N := some 19) (v := ?_) (a' := ?_) #[true, false, false, false, true, false, false, false, false, false, false, false, false] rfl rfl (take_ofW HT_.out HW_.out (by kernel_rfl)) (fun _ _ _ h => h) (Or.inl ⟨by rfl, ?_⟩) hHeld ?_ ?_
    rotate_left
    · rintro w' ⟨s0, s1, s2, s3, s4, s5, s6⟩
      go_simp
      with_reducible rfl
    rotate_left
    · simp only [Act.put, List.setIfInBounds_toArray, List.set_cons_zero, List.set_cons_succ, i64_w, i32_w]
      rfl
    refine take_ (i := 2) (N := some 21) (v := ?_) (a' := ?_) #[true, false, true, false, true, false, false, false, false, false, false, false, false] rfl rfl (take_ofW HT_.out HW_.out (by kernel_rfl)) (fun _ _ _ h => h) (Or.inl ⟨by rfl, ?_⟩) hHeld ?_ ?_
    rotate_left
    · rintro w' ⟨s0, s1, s2, s3, s4, s5, s6⟩
      go_simp
      with_reducible rfl
    rotate_left
    · simp only [Act.put, List.setIfInBounds_toArray, List.set_cons_zero, List.set_cons_succ, i64_w, i32_w]
      rfl
    refine join_ (σ := Value × Nat) 2 #[true, true, true, true, true, true, true, true, true, true, true, false, false] (fun s_ => [(20, .agg #[.int .i64 t788, .int .i64 t789, .int .i8 t790, .int .i8 t791]), (22, .agg #[.int .i64 t792, .int .i64 t793, .int .i64 t794]), (24, s_.1), (25, .tuple #[.agg #[.int .i64 t798, .int .i64 t799, .int .i64 t800], .int .i64 t801]), (8, .pointer (some ⟨s_.2, 0, none⟩)), (18, .tuple #[.agg #[.int .i64 t798, .int .i64 t799, .int .i64 t800], .int .i64 t801]), (26, .agg #[.int .i64 t798, .int .i64 t799, .int .i64 t800]), (27, .int .i64 t801)]) (fun s_ w' => (w'.cell? ⟨gb785, 0, none⟩ = some (.int .i64 a0_0) ∧ w'.cell? ⟨gb785, 1, none⟩ = some (.int .i64 a0_1) ∧ w'.cell? ⟨gb785, 2, none⟩ = some (.int .i8 a0_2) ∧ w'.cell? ⟨gb785, 3, none⟩ = some (.int .i8 a0_3) ∧ w'.cell? ⟨gb786, 0, none⟩ = some (.int .i64 a1_0) ∧ w'.cell? ⟨gb786, 1, none⟩ = some (.int .i64 a1_1) ∧ w'.cell? ⟨gb786, 2, none⟩ = some (.int .i64 a1_2)) ∧ (Kd.R k161 161 w' w.heap.size (fun _ => True) s_.1 t795) ∧ (w'.heap[gb785]? = some (.cells #[.int .i64 a0_0, .int .i64 a0_1, .int .i8 a0_2, .int .i8 a0_3] 92 (0, 0))) ∧ (w'.heap[gb786]? = some (.cells #[.int .i64 a1_0, .int .i64 a1_1, .int .i64 a1_2] 93 (0, 0))) ∧ (w'.heap[s_.2]? = some (.cells #[.int .i64 0, .int .i64 0, .int .i64 0] 73 (0, 0))) ∧ (w.heap.size ≤ s_.2) ∧ (w.heap.size ≤ s_.2) ∧ (gb785 ≠ s_.2) ∧ (s_.2 ≠ gb785) ∧ (gb786 ≠ s_.2) ∧ (s_.2 ≠ gb786) ∧ (Below w.heap.size w w')) ?_ ?_
    rotate_left
    · intro hJ1_3_5_6_10
      refine join_ (σ := Value) 3 #[true, true, true, true, true, true, true, true, true, true, false, false, false] (fun s_ => [(20, .agg #[.int .i64 t788, .int .i64 t789, .int .i8 t790, .int .i8 t791]), (22, .agg #[.int .i64 t792, .int .i64 t793, .int .i64 t794]), (24, s_), (25, .tuple #[.agg #[.int .i64 t798, .int .i64 t799, .int .i64 t800], .int .i64 t801]), (18, .tuple #[.agg #[.int .i64 t798, .int .i64 t799, .int .i64 t800], .int .i64 t801]), (26, .agg #[.int .i64 t798, .int .i64 t799, .int .i64 t800]), (27, .int .i64 t801)]) (fun s_ w' => (w'.cell? ⟨gb785, 0, none⟩ = some (.int .i64 a0_0) ∧ w'.cell? ⟨gb785, 1, none⟩ = some (.int .i64 a0_1) ∧ w'.cell? ⟨gb785, 2, none⟩ = some (.int .i8 a0_2) ∧ w'.cell? ⟨gb785, 3, none⟩ = some (.int .i8 a0_3) ∧ w'.cell? ⟨gb786, 0, none⟩ = some (.int .i64 a1_0) ∧ w'.cell? ⟨gb786, 1, none⟩ = some (.int .i64 a1_1) ∧ w'.cell? ⟨gb786, 2, none⟩ = some (.int .i64 a1_2)) ∧ (Kd.R k161 161 w' w.heap.size (fun _ => True) s_ t795) ∧ (w'.heap[gb785]? = some (.cells #[.int .i64 a0_0, .int .i64 a0_1, .int .i8 a0_2, .int .i8 a0_3] 92 (0, 0))) ∧ (w'.heap[gb786]? = some (.cells #[.int .i64 a1_0, .int .i64 a1_1, .int .i64 a1_2] 93 (0, 0))) ∧ (Below w.heap.size w w')) ?_ ?_
      rotate_left
      · intro hJ1_3_5_6
        refine join_ (σ := Value × Nat) 6 #[true, true, true, true, true, true, false, false, false, false, true, false, false] (fun s_ => [(20, .agg #[.int .i64 t788, .int .i64 t789, .int .i8 t790, .int .i8 t791]), (22, .agg #[.int .i64 t792, .int .i64 t793, .int .i64 t794]), (24, s_.1), (8, .pointer (some ⟨s_.2, 0, none⟩))]) (fun s_ w' => (w'.cell? ⟨gb785, 0, none⟩ = some (.int .i64 a0_0) ∧ w'.cell? ⟨gb785, 1, none⟩ = some (.int .i64 a0_1) ∧ w'.cell? ⟨gb785, 2, none⟩ = some (.int .i8 a0_2) ∧ w'.cell? ⟨gb785, 3, none⟩ = some (.int .i8 a0_3) ∧ w'.cell? ⟨gb786, 0, none⟩ = some (.int .i64 a1_0) ∧ w'.cell? ⟨gb786, 1, none⟩ = some (.int .i64 a1_1) ∧ w'.cell? ⟨gb786, 2, none⟩ = some (.int .i64 a1_2)) ∧ (Kd.R k161 161 w' w.heap.size (fun _ => True) s_.1 t795) ∧ (w'.heap[gb785]? = some (.cells #[.int .i64 a0_0, .int .i64 a0_1, .int .i8 a0_2, .int .i8 a0_3] 92 (0, 0))) ∧ (w'.heap[gb786]? = some (.cells #[.int .i64 a1_0, .int .i64 a1_1, .int .i64 a1_2] 93 (0, 0))) ∧ (w'.heap[s_.2]? = some (.cells #[.int .i64 0, .int .i64 0, .int .i64 0] 73 (0, 0))) ∧ (w.heap.size ≤ s_.2) ∧ (w.heap.size ≤ s_.2) ∧ (gb785 ≠ s_.2) ∧ (s_.2 ≠ gb785) ∧ (gb786 ≠ s_.2) ∧ (s_.2 ≠ gb786) ∧ (Below w.heap.size w w')) ?_ ?_
        rotate_left
        · intro hJ1_3_5_10
          refine join_ (σ := Value) 7 #[true, true, true, true, true, true, false, false, false, false, false, false, false] (fun s_ => [(20, .agg #[.int .i64 t788, .int .i64 t789, .int .i8 t790, .int .i8 t791]), (22, .agg #[.int .i64 t792, .int .i64 t793, .int .i64 t794]), (24, s_)]) (fun s_ w' => (w'.cell? ⟨gb785, 0, none⟩ = some (.int .i64 a0_0) ∧ w'.cell? ⟨gb785, 1, none⟩ = some (.int .i64 a0_1) ∧ w'.cell? ⟨gb785, 2, none⟩ = some (.int .i8 a0_2) ∧ w'.cell? ⟨gb785, 3, none⟩ = some (.int .i8 a0_3) ∧ w'.cell? ⟨gb786, 0, none⟩ = some (.int .i64 a1_0) ∧ w'.cell? ⟨gb786, 1, none⟩ = some (.int .i64 a1_1) ∧ w'.cell? ⟨gb786, 2, none⟩ = some (.int .i64 a1_2)) ∧ (Kd.R k161 161 w' w.heap.size (fun _ => True) s_ t795) ∧ (w'.heap[gb785]? = some (.cells #[.int .i64 a0_0, .int .i64 a0_1, .int .i8 a0_2, .int .i8 a0_3] 92 (0, 0))) ∧ (w'.heap[gb786]? = some (.cells #[.int .i64 a1_0, .int .i64 a1_1, .int .i64 a1_2] 93 (0, 0))) ∧ (Below w.heap.size w w')) ?_ ?_
          rotate_left
          · intro hJ1_3_5
            refine join_ (σ := Nat) 7 #[true, true, true, true, true, false, false, false, false, false, true, false, false] (fun s_ => [(20, .agg #[.int .i64 t788, .int .i64 t789, .int .i8 t790, .int .i8 t791]), (22, .agg #[.int .i64 t792, .int .i64 t793, .int .i64 t794]), (8, .pointer (some ⟨s_, 0, none⟩))]) (fun s_ w' => (w'.cell? ⟨gb785, 0, none⟩ = some (.int .i64 a0_0) ∧ w'.cell? ⟨gb785, 1, none⟩ = some (.int .i64 a0_1) ∧ w'.cell? ⟨gb785, 2, none⟩ = some (.int .i8 a0_2) ∧ w'.cell? ⟨gb785, 3, none⟩ = some (.int .i8 a0_3) ∧ w'.cell? ⟨gb786, 0, none⟩ = some (.int .i64 a1_0) ∧ w'.cell? ⟨gb786, 1, none⟩ = some (.int .i64 a1_1) ∧ w'.cell? ⟨gb786, 2, none⟩ = some (.int .i64 a1_2)) ∧ (w'.heap[gb785]? = some (.cells #[.int .i64 a0_0, .int .i64 a0_1, .int .i8 a0_2, .int .i8 a0_3] 92 (0, 0))) ∧ (w'.heap[gb786]? = some (.cells #[.int .i64 a1_0, .int .i64 a1_1, .int .i64 a1_2] 93 (0, 0))) ∧ (w'.heap[s_]? = some (.cells #[.int .i64 0, .int .i64 0, .int .i64 0] 73 (0, 0))) ∧ (w.heap.size ≤ s_) ∧ (w.heap.size ≤ s_) ∧ (gb785 ≠ s_) ∧ (s_ ≠ gb785) ∧ (gb786 ≠ s_) ∧ (s_ ≠ gb786) ∧ (Below w.heap.size w w')) ?_ ?_
            rotate_left
            · intro hJ1_3_10
              refine join_ (σ := Unit) 8 #[true, true, true, true, true, false, false, false, false, false, false, false, false] (fun s_ => [(20, .agg #[.int .i64 t788, .int .i64 t789, .int .i8 t790, .int .i8 t791]), (22, .agg #[.int .i64 t792, .int .i64 t793, .int .i64 t794])]) (fun s_ w' => (w'.cell? ⟨gb785, 0, none⟩ = some (.int .i64 a0_0) ∧ w'.cell? ⟨gb785, 1, none⟩ = some (.int .i64 a0_1) ∧ w'.cell? ⟨gb785, 2, none⟩ = some (.int .i8 a0_2) ∧ w'.cell? ⟨gb785, 3, none⟩ = some (.int .i8 a0_3) ∧ w'.cell? ⟨gb786, 0, none⟩ = some (.int .i64 a1_0) ∧ w'.cell? ⟨gb786, 1, none⟩ = some (.int .i64 a1_1) ∧ w'.cell? ⟨gb786, 2, none⟩ = some (.int .i64 a1_2)) ∧ (w'.heap[gb785]? = some (.cells #[.int .i64 a0_0, .int .i64 a0_1, .int .i8 a0_2, .int .i8 a0_3] 92 (0, 0))) ∧ (w'.heap[gb786]? = some (.cells #[.int .i64 a1_0, .int .i64 a1_1, .int .i64 a1_2] 93 (0, 0))) ∧ (Below w.heap.size w w')) ?_ ?_
              rotate_left
              · intro hJ1_3
                refine join_ (σ := Nat) 8 #[true, true, true, false, true, false, false, false, false, false, true, false, false] (fun s_ => [(20, .agg #[.int .i64 t788, .int .i64 t789, .int .i8 t790, .int .i8 t791]), (8, .pointer (some ⟨s_, 0, none⟩))]) (fun s_ w' => (w'.cell? ⟨gb785, 0, none⟩ = some (.int .i64 a0_0) ∧ w'.cell? ⟨gb785, 1, none⟩ = some (.int .i64 a0_1) ∧ w'.cell? ⟨gb785, 2, none⟩ = some (.int .i8 a0_2) ∧ w'.cell? ⟨gb785, 3, none⟩ = some (.int .i8 a0_3) ∧ w'.cell? ⟨gb786, 0, none⟩ = some (.int .i64 a1_0) ∧ w'.cell? ⟨gb786, 1, none⟩ = some (.int .i64 a1_1) ∧ w'.cell? ⟨gb786, 2, none⟩ = some (.int .i64 a1_2)) ∧ (w'.heap[gb785]? = some (.cells #[.int .i64 a0_0, .int .i64 a0_1, .int .i8 a0_2, .int .i8 a0_3] 92 (0, 0))) ∧ (w'.heap[gb786]? = some (.cells #[.int .i64 a1_0, .int .i64 a1_1, .int .i64 a1_2] 93 (0, 0))) ∧ (w'.heap[s_]? = some (.cells #[.int .i64 0, .int .i64 0, .int .i64 0] 73 (0, 0))) ∧ (w.heap.size ≤ s_) ∧ (w.heap.size ≤ s_) ∧ (gb785 ≠ s_) ∧ (s_ ≠ gb785) ∧ (gb786 ≠ s_) ∧ (s_ ≠ gb786) ∧ (Below w.heap.size w w')) ?_ ?_
                rotate_left
                · intro hJ1_10
                  refine join_ (σ := Unit) 9 #[true, true, true, false, true, false, false, false, false, false, false, false, false] (fun s_ => [(20, .agg #[.int .i64 t788, .int .i64 t789, .int .i8 t790, .int .i8 t791])]) (fun s_ w' => (w'.cell? ⟨gb785, 0, none⟩ = some (.int .i64 a0_0) ∧ w'.cell? ⟨gb785, 1, none⟩ = some (.int .i64 a0_1) ∧ w'.cell? ⟨gb785, 2, none⟩ = some (.int .i8 a0_2) ∧ w'.cell? ⟨gb785, 3, none⟩ = some (.int .i8 a0_3) ∧ w'.cell? ⟨gb786, 0, none⟩ = some (.int .i64 a1_0) ∧ w'.cell? ⟨gb786, 1, none⟩ = some (.int .i64 a1_1) ∧ w'.cell? ⟨gb786, 2, none⟩ = some (.int .i64 a1_2)) ∧ (w'.heap[gb785]? = some (.cells #[.int .i64 a0_0, .int .i64 a0_1, .int .i8 a0_2, .int .i8 a0_3] 92 (0, 0))) ∧ (w'.heap[gb786]? = some (.cells #[.int .i64 a1_0, .int .i64 a1_1, .int .i64 a1_2] 93 (0, 0))) ∧ (Below w.heap.size w w')) ?_ ?_
                  rotate_left
                  · intro hJ1
                    refine join_ (σ := Nat) 9 #[true, false, true, false, true, false, false, false, false, false, true, false, false] (fun s_ => [(8, .pointer (some ⟨s_, 0, none⟩))]) (fun s_ w' => (w'.cell? ⟨gb785, 0, none⟩ = some (.int .i64 a0_0) ∧ w'.cell? ⟨gb785, 1, none⟩ = some (.int .i64 a0_1) ∧ w'.cell? ⟨gb785, 2, none⟩ = some (.int .i8 a0_2) ∧ w'.cell? ⟨gb785, 3, none⟩ = some (.int .i8 a0_3) ∧ w'.cell? ⟨gb786, 0, none⟩ = some (.int .i64 a1_0) ∧ w'.cell? ⟨gb786, 1, none⟩ = some (.int .i64 a1_1) ∧ w'.cell? ⟨gb786, 2, none⟩ = some (.int .i64 a1_2)) ∧ (w'.heap[gb785]? = some (.cells #[.int .i64 a0_0, .int .i64 a0_1, .int .i8 a0_2, .int .i8 a0_3] 92 (0, 0))) ∧ (w'.heap[gb786]? = some (.cells #[.int .i64 a1_0, .int .i64 a1_1, .int .i64 a1_2] 93 (0, 0))) ∧ (w'.heap[s_]? = some (.cells #[.int .i64 0, .int .i64 0, .int .i64 0] 73 (0, 0))) ∧ (w.heap.size ≤ s_) ∧ (w.heap.size ≤ s_) ∧ (gb785 ≠ s_) ∧ (s_ ≠ gb785) ∧ (gb786 ≠ s_) ∧ (s_ ≠ gb786) ∧ (Below w.heap.size w w')) ?_ ?_
                    rotate_left
                    · intro hJ10
                      refine two_ (i := 1) (j := 10) (Ni := some 20) (Nj := some 8) #[true, true, true, false, true, false, false, false, false, false, false, false, false] #[true, false, true, false, true, false, false, false, false, false, true, false, false] rfl rfl rfl rfl (two_of HT_.out (by kernel_rfl)) (by decide) (by decide) (fun K hK => ?_) (fun K hK => ?_)
                      · skip
                        refine goes_ Try.func71 (by kernel_rfl) rfl #[.agg #[.int .i64 a0_0, .int .i64 a0_1, .int .i8 a0_2, .int .i8 a0_3]] (by rfl) rfl rfl (by (try simp only [List.map_toArray, List.map_cons, List.map_nil]); first | done | rfl | (simp only [List.length_drop, List.length_take]; rfl)) ?_
                        with_reducible refine (laws_toDeveloper.calls a0_0 a0_1 a0_2 a0_3 t788 t789 t790 t791 _ A8.out).mono ?_
                        rintro e w20 ⟨rfl, hb⟩
                        refine ⟨_, rfl, ?_⟩
                        have n0_ := Aside0.mk (blk_below (g := gb785) (o := .cells #[.int .i64 a0_0, .int .i64 a0_1, .int .i8 a0_2, .int .i8 a0_3] 92 (0, 0)) (by (with_reducible repeat (first | refine blk_drewN ?_ _ | refine blk_drew ?_ | refine blk_alloc ?_ _)); exact BK785.out) hb)
                        have n1_ := Aside0.mk (blk_below BK786.out hb)
                        have n2_ := Aside0.mk (below_step HB.out hb)
                        clear BK785
                        clear BK786
                        clear HB
                        have BK785 := n0_
                        have BK786 := n1_
                        have HB := n2_
                        clear n0_ n1_ n2_
                        (try clear hb)
                        (try clear hb2)
                        (try clear hk)
                        (try clear hi)
                        refine hK.out _ _ ⟨(blk_cell BK785.out 0).trans rfl, (blk_cell BK785.out 1).trans rfl, (blk_cell BK785.out 2).trans rfl, (blk_cell BK785.out 3).trans rfl, (blk_cell BK786.out 0).trans rfl, (blk_cell BK786.out 1).trans rfl, (blk_cell BK786.out 2).trans rfl⟩ (fun hHeld => ?_)
                        clear hK K
                        refine norm_ (a' := ?_) ?_ ?_
                        rotate_left
                        · show Act.put _ (some 20) _ = _
                          simp only [Act.put, List.setIfInBounds_toArray, List.set_cons_zero, List.set_cons_succ, i64_w, i32_w]
                          rfl
                        exact norm_ (by first | (simp only [putAll, Act.put, List.setIfInBounds_toArray, List.set_cons_zero, List.set_cons_succ]; done) | (simp only [putAll, Act.put, List.setIfInBounds_toArray, List.set_cons_zero, List.set_cons_succ]; rfl)) (hJ1 () _ ⟨hHeld, (by (with_reducible repeat (first | refine blk_drewN ?_ _ | refine blk_drew ?_ | refine blk_alloc ?_ _)); exact BK785.out), (by (with_reducible repeat (first | refine blk_drewN ?_ _ | refine blk_drew ?_ | refine blk_alloc ?_ _)); exact BK786.out), (by repeat (first | (with_reducible first | exact HB.out | apply below_alloc | apply pw_below_drewN | apply below_drew1 | refine below_set ?_ GE785.out | refine below_set ?_ GE786.out) | exact HB.out))⟩)
                      · skip
                        refine box_step ?hg (N := 8) ?hd (cs := #[.int .i64 0, .int .i64 0, .int .i64 0]) (t := 73) ?hr ?_; (case hd => rfl); (case hg => rfl); (case hr => first | (go_simp; done) | (go_simp; rfl))
                        intro gb802 hg w20 hbox hb
                        have n0_ := Aside0.mk (blk_below (g := gb785) (o := .cells #[.int .i64 a0_0, .int .i64 a0_1, .int .i8 a0_2, .int .i8 a0_3] 92 (0, 0)) (by (with_reducible repeat (first | refine blk_drewN ?_ _ | refine blk_drew ?_ | refine blk_alloc ?_ _)); exact BK785.out) hb)
                        have n1_ := Aside0.mk (blk_below BK786.out hb)
                        have n2_ := Aside0.mk (below_step HB.out hb)
                        have n3_ := Aside0.mk (hbox)
                        have n4_ := Aside0.mk ((by rw [hg]; exact (below_size HB.out) : w.heap.size ≤ gb802))
                        have n5_ := Aside0.mk ((by rw [hg]; exact (below_size HB.out) : w.heap.size ≤ gb802))
                        have n6_ := Aside0.mk ((by rw [hg]; exact Nat.ne_of_lt (blk_lt BK785.out) : gb785 ≠ gb802))
                        have n7_ := Aside0.mk ((by rw [hg]; exact Nat.ne_of_gt (blk_lt BK785.out) : gb802 ≠ gb785))
                        have n8_ := Aside0.mk ((by rw [hg]; exact Nat.ne_of_lt (blk_lt BK786.out) : gb786 ≠ gb802))
                        have n9_ := Aside0.mk ((by rw [hg]; exact Nat.ne_of_gt (blk_lt BK786.out) : gb802 ≠ gb786))
                        clear BK785
                        clear BK786
                        clear HB
                        have BK785 := n0_
                        have BK786 := n1_
                        have HB := n2_
                        have BK802 := n3_
                        have GW802 := n4_
                        have GE802 := n5_
                        have NB785_802 := n6_
                        have NB802_785 := n7_
                        have NB786_802 := n8_
                        have NB802_786 := n9_
                        clear n0_ n1_ n2_ n3_ n4_ n5_ n6_ n7_ n8_ n9_
                        clear hb hbox hg
                        refine hK.out _ _ ⟨(blk_cell BK785.out 0).trans rfl, (blk_cell BK785.out 1).trans rfl, (blk_cell BK785.out 2).trans rfl, (blk_cell BK785.out 3).trans rfl, (blk_cell BK786.out 0).trans rfl, (blk_cell BK786.out 1).trans rfl, (blk_cell BK786.out 2).trans rfl⟩ (fun hHeld => ?_)
                        clear hK K
                        refine norm_ (a' := ?_) ?_ ?_
                        rotate_left
                        · show Act.put _ (some 8) _ = _
                          simp only [Act.put, List.setIfInBounds_toArray, List.set_cons_zero, List.set_cons_succ, i64_w, i32_w]
                          rfl
                        exact norm_ (by first | (simp only [putAll, Act.put, List.setIfInBounds_toArray, List.set_cons_zero, List.set_cons_succ]; done) | (simp only [putAll, Act.put, List.setIfInBounds_toArray, List.set_cons_zero, List.set_cons_succ]; rfl)) (hJ10 (gb802) _ ⟨hHeld, BK785.out, BK786.out, BK802.out, GW802.out, GE802.out, NB785_802.out, NB802_785.out, NB786_802.out, NB802_786.out, HB.out⟩)
                    · skip
                      rintro gb802 w21 ⟨hS_, h0_, h1_, h2_, h3_, h4_, h5_, h6_, h7_, h8_, h9_⟩
                      have n0_ : Aside0 (w21.heap[gb785]? = some (.cells #[.int .i64 a0_0, .int .i64 a0_1, .int .i8 a0_2, .int .i8 a0_3] 92 (0, 0))) := ⟨h0_⟩
                      have n1_ : Aside0 (w21.heap[gb786]? = some (.cells #[.int .i64 a1_0, .int .i64 a1_1, .int .i64 a1_2] 93 (0, 0))) := ⟨h1_⟩
                      have n2_ : Aside0 (w21.heap[gb802]? = some (.cells #[.int .i64 0, .int .i64 0, .int .i64 0] 73 (0, 0))) := ⟨h2_⟩
                      have n3_ : Aside0 (w.heap.size ≤ gb802) := ⟨h3_⟩
                      have n4_ : Aside0 (w.heap.size ≤ gb802) := ⟨h4_⟩
                      have n5_ : Aside0 (gb785 ≠ gb802) := ⟨h5_⟩
                      have n6_ : Aside0 (gb802 ≠ gb785) := ⟨h6_⟩
                      have n7_ : Aside0 (gb786 ≠ gb802) := ⟨h7_⟩
                      have n8_ : Aside0 (gb802 ≠ gb786) := ⟨h8_⟩
                      have n9_ : Aside0 (Below w.heap.size w w21) := ⟨h9_⟩
                      clear BK785
                      clear BK786
                      clear HB
                      clear h0_ h1_ h2_ h3_ h4_ h5_ h6_ h7_ h8_ h9_
                      have BK785 := n0_
                      have BK786 := n1_
                      have BK802 := n2_
                      have GW802 := n3_
                      have GE802 := n4_
                      have NB785_802 := n5_
                      have NB802_785 := n6_
                      have NB786_802 := n7_
                      have NB802_786 := n8_
                      have HB := n9_
                      clear n0_ n1_ n2_ n3_ n4_ n5_ n6_ n7_ n8_ n9_
                      have hHeld : w21.cell? ⟨gb785, 0, none⟩ = some (.int .i64 a0_0) ∧ w21.cell? ⟨gb785, 1, none⟩ = some (.int .i64 a0_1) ∧ w21.cell? ⟨gb785, 2, none⟩ = some (.int .i8 a0_2) ∧ w21.cell? ⟨gb785, 3, none⟩ = some (.int .i8 a0_3) ∧ w21.cell? ⟨gb786, 0, none⟩ = some (.int .i64 a1_0) ∧ w21.cell? ⟨gb786, 1, none⟩ = some (.int .i64 a1_1) ∧ w21.cell? ⟨gb786, 2, none⟩ = some (.int .i64 a1_2) := hS_
                      refine norm_ (a' := ?_) ?_ ?_
                      rotate_left
                      · simp only [putAll, Act.put, List.setIfInBounds_toArray, List.set_cons_zero, List.set_cons_succ]
                        rfl
                      refine one_ (i := 1) (N := some 20) #[true, true, true, false, true, false, false, false, false, false, true, false, false] rfl rfl (one_of HT_.out (by kernel_rfl)) (by decide) (fun K hK => ?_)
                      refine goes_ Try.func71 (by kernel_rfl) rfl #[.agg #[.int .i64 a0_0, .int .i64 a0_1, .int .i8 a0_2, .int .i8 a0_3]] (by rfl) rfl rfl (by (try simp only [List.map_toArray, List.map_cons, List.map_nil]); first | done | rfl | (simp only [List.length_drop, List.length_take]; rfl)) ?_
                      with_reducible refine (laws_toDeveloper.calls a0_0 a0_1 a0_2 a0_3 t788 t789 t790 t791 _ A8.out).mono ?_
                      rintro e w22 ⟨rfl, hb⟩
                      refine ⟨_, rfl, ?_⟩
                      have n0_ := Aside0.mk (blk_below (g := gb785) (o := .cells #[.int .i64 a0_0, .int .i64 a0_1, .int .i8 a0_2, .int .i8 a0_3] 92 (0, 0)) (by (with_reducible repeat (first | refine blk_drewN ?_ _ | refine blk_drew ?_ | refine blk_alloc ?_ _)); exact BK785.out) hb)
                      have n1_ := Aside0.mk (blk_below BK786.out hb)
                      have n2_ := Aside0.mk (blk_below BK802.out hb)
                      have n3_ := Aside0.mk (below_step HB.out hb)
                      clear BK785
                      clear BK786
                      clear BK802
                      clear HB
                      have BK785 := n0_
                      have BK786 := n1_
                      have BK802 := n2_
                      have HB := n3_
                      clear n0_ n1_ n2_ n3_
                      (try clear hb)
                      (try clear hb2)
                      (try clear hk)
                      (try clear hi)
                      refine hK.out _ _ ⟨(blk_cell BK785.out 0).trans rfl, (blk_cell BK785.out 1).trans rfl, (blk_cell BK785.out 2).trans rfl, (blk_cell BK785.out 3).trans rfl, (blk_cell BK786.out 0).trans rfl, (blk_cell BK786.out 1).trans rfl, (blk_cell BK786.out 2).trans rfl⟩ (fun hHeld => ?_)
                      clear hK K
                      refine norm_ (a' := ?_) ?_ ?_
                      rotate_left
                      · show Act.put _ (some 20) _ = _
                        simp only [Act.put, List.setIfInBounds_toArray, List.set_cons_zero, List.set_cons_succ, i64_w, i32_w]
                        rfl
                      exact norm_ (by first | (simp only [putAll, Act.put, List.setIfInBounds_toArray, List.set_cons_zero, List.set_cons_succ]; done) | (simp only [putAll, Act.put, List.setIfInBounds_toArray, List.set_cons_zero, List.set_cons_succ]; rfl)) (hJ1_10 (gb802) _ ⟨hHeld, BK785.out, BK786.out, BK802.out, GW802.out, GE802.out, NB785_802.out, NB802_785.out, NB786_802.out, NB802_786.out, HB.out⟩)
                  · skip
                    rintro _ w21 ⟨hS_, h0_, h1_, h2_⟩
                    have n0_ : Aside0 (w21.heap[gb785]? = some (.cells #[.int .i64 a0_0, .int .i64 a0_1, .int .i8 a0_2, .int .i8 a0_3] 92 (0, 0))) := ⟨h0_⟩
                    have n1_ : Aside0 (w21.heap[gb786]? = some (.cells #[.int .i64 a1_0, .int .i64 a1_1, .int .i64 a1_2] 93 (0, 0))) := ⟨h1_⟩
                    have n2_ : Aside0 (Below w.heap.size w w21) := ⟨h2_⟩
                    clear BK785
                    clear BK786
                    clear HB
                    clear h0_ h1_ h2_
                    have BK785 := n0_
                    have BK786 := n1_
                    have HB := n2_
                    clear n0_ n1_ n2_
                    have hHeld : w21.cell? ⟨gb785, 0, none⟩ = some (.int .i64 a0_0) ∧ w21.cell? ⟨gb785, 1, none⟩ = some (.int .i64 a0_1) ∧ w21.cell? ⟨gb785, 2, none⟩ = some (.int .i8 a0_2) ∧ w21.cell? ⟨gb785, 3, none⟩ = some (.int .i8 a0_3) ∧ w21.cell? ⟨gb786, 0, none⟩ = some (.int .i64 a1_0) ∧ w21.cell? ⟨gb786, 1, none⟩ = some (.int .i64 a1_1) ∧ w21.cell? ⟨gb786, 2, none⟩ = some (.int .i64 a1_2) := hS_
                    refine norm_ (a' := ?_) ?_ ?_
                    rotate_left
                    · simp only [putAll, Act.put, List.setIfInBounds_toArray, List.set_cons_zero, List.set_cons_succ]
                      rfl
                    refine two_ (i := 3) (j := 10) (Ni := some 22) (Nj := some 8) #[true, true, true, true, true, false, false, false, false, false, false, false, false] #[true, true, true, false, true, false, false, false, false, false, true, false, false] rfl rfl rfl rfl (two_of HT_.out (by kernel_rfl)) (by decide) (by decide) (fun K hK => ?_) (fun K hK => ?_)
                    · skip
                      refine goes_ Try.func72 (by kernel_rfl) rfl #[.agg #[.int .i64 a1_0, .int .i64 a1_1, .int .i64 a1_2]] (by rfl) rfl rfl (by (try simp only [List.map_toArray, List.map_cons, List.map_nil]); first | done | rfl | (simp only [List.length_drop, List.length_take]; rfl)) ?_
                      with_reducible refine (laws_toBath.calls a1_0 a1_1 a1_2 t792 t793 t794 _ A9.out).mono ?_
                      rintro e w22 ⟨rfl, hb⟩
                      refine ⟨_, rfl, ?_⟩
                      have n0_ := Aside0.mk (blk_below (g := gb785) (o := .cells #[.int .i64 a0_0, .int .i64 a0_1, .int .i8 a0_2, .int .i8 a0_3] 92 (0, 0)) (by (with_reducible repeat (first | refine blk_drewN ?_ _ | refine blk_drew ?_ | refine blk_alloc ?_ _)); exact BK785.out) hb)
                      have n1_ := Aside0.mk (blk_below BK786.out hb)
                      have n2_ := Aside0.mk (below_step HB.out hb)
                      clear BK785
                      clear BK786
                      clear HB
                      have BK785 := n0_
                      have BK786 := n1_
                      have HB := n2_
                      clear n0_ n1_ n2_
                      (try clear hb)
                      (try clear hb2)
                      (try clear hk)
                      (try clear hi)
                      refine hK.out _ _ ⟨(blk_cell BK785.out 0).trans rfl, (blk_cell BK785.out 1).trans rfl, (blk_cell BK785.out 2).trans rfl, (blk_cell BK785.out 3).trans rfl, (blk_cell BK786.out 0).trans rfl, (blk_cell BK786.out 1).trans rfl, (blk_cell BK786.out 2).trans rfl⟩ (fun hHeld => ?_)
                      clear hK K
                      refine norm_ (a' := ?_) ?_ ?_
                      rotate_left
                      · show Act.put _ (some 22) _ = _
                        simp only [Act.put, List.setIfInBounds_toArray, List.set_cons_zero, List.set_cons_succ, i64_w, i32_w]
                        rfl
                      exact norm_ (by first | (simp only [putAll, Act.put, List.setIfInBounds_toArray, List.set_cons_zero, List.set_cons_succ]; done) | (simp only [putAll, Act.put, List.setIfInBounds_toArray, List.set_cons_zero, List.set_cons_succ]; rfl)) (hJ1_3 () _ ⟨hHeld, BK785.out, BK786.out, HB.out⟩)
                    · skip
                      refine box_step ?hg (N := 8) ?hd (cs := #[.int .i64 0, .int .i64 0, .int .i64 0]) (t := 73) ?hr ?_; (case hd => rfl); (case hg => rfl); (case hr => first | (go_simp; done) | (go_simp; rfl))
                      intro gb802 hg w22 hbox hb
                      have n0_ := Aside0.mk (blk_below (g := gb785) (o := .cells #[.int .i64 a0_0, .int .i64 a0_1, .int .i8 a0_2, .int .i8 a0_3] 92 (0, 0)) (by (with_reducible repeat (first | refine blk_drewN ?_ _ | refine blk_drew ?_ | refine blk_alloc ?_ _)); exact BK785.out) hb)
                      have n1_ := Aside0.mk (blk_below BK786.out hb)
                      have n2_ := Aside0.mk (below_step HB.out hb)
                      have n3_ := Aside0.mk (hbox)
                      have n4_ := Aside0.mk ((by rw [hg]; exact (below_size HB.out) : w.heap.size ≤ gb802))
                      have n5_ := Aside0.mk ((by rw [hg]; exact (below_size HB.out) : w.heap.size ≤ gb802))
                      have n6_ := Aside0.mk ((by rw [hg]; exact Nat.ne_of_lt (blk_lt BK785.out) : gb785 ≠ gb802))
                      have n7_ := Aside0.mk ((by rw [hg]; exact Nat.ne_of_gt (blk_lt BK785.out) : gb802 ≠ gb785))
                      have n8_ := Aside0.mk ((by rw [hg]; exact Nat.ne_of_lt (blk_lt BK786.out) : gb786 ≠ gb802))
                      have n9_ := Aside0.mk ((by rw [hg]; exact Nat.ne_of_gt (blk_lt BK786.out) : gb802 ≠ gb786))
                      clear BK785
                      clear BK786
                      clear HB
                      have BK785 := n0_
                      have BK786 := n1_
                      have HB := n2_
                      have BK802 := n3_
                      have GW802 := n4_
                      have GE802 := n5_
                      have NB785_802 := n6_
                      have NB802_785 := n7_
                      have NB786_802 := n8_
                      have NB802_786 := n9_
                      clear n0_ n1_ n2_ n3_ n4_ n5_ n6_ n7_ n8_ n9_
                      clear hb hbox hg
                      refine hK.out _ _ ⟨(blk_cell BK785.out 0).trans rfl, (blk_cell BK785.out 1).trans rfl, (blk_cell BK785.out 2).trans rfl, (blk_cell BK785.out 3).trans rfl, (blk_cell BK786.out 0).trans rfl, (blk_cell BK786.out 1).trans rfl, (blk_cell BK786.out 2).trans rfl⟩ (fun hHeld => ?_)
                      clear hK K
                      refine norm_ (a' := ?_) ?_ ?_
                      rotate_left
                      · show Act.put _ (some 8) _ = _
                        simp only [Act.put, List.setIfInBounds_toArray, List.set_cons_zero, List.set_cons_succ, i64_w, i32_w]
                        rfl
                      exact norm_ (by first | (simp only [putAll, Act.put, List.setIfInBounds_toArray, List.set_cons_zero, List.set_cons_succ]; done) | (simp only [putAll, Act.put, List.setIfInBounds_toArray, List.set_cons_zero, List.set_cons_succ]; rfl)) (hJ1_10 (gb802) _ ⟨hHeld, BK785.out, BK786.out, BK802.out, GW802.out, GE802.out, NB785_802.out, NB802_785.out, NB786_802.out, NB802_786.out, HB.out⟩)
                · skip
                  rintro gb802 w22 ⟨hS_, h0_, h1_, h2_, h3_, h4_, h5_, h6_, h7_, h8_, h9_⟩
                  have n0_ : Aside0 (w22.heap[gb785]? = some (.cells #[.int .i64 a0_0, .int .i64 a0_1, .int .i8 a0_2, .int .i8 a0_3] 92 (0, 0))) := ⟨h0_⟩
                  have n1_ : Aside0 (w22.heap[gb786]? = some (.cells #[.int .i64 a1_0, .int .i64 a1_1, .int .i64 a1_2] 93 (0, 0))) := ⟨h1_⟩
                  have n2_ : Aside0 (w22.heap[gb802]? = some (.cells #[.int .i64 0, .int .i64 0, .int .i64 0] 73 (0, 0))) := ⟨h2_⟩
                  have n3_ : Aside0 (w.heap.size ≤ gb802) := ⟨h3_⟩
                  have n4_ : Aside0 (w.heap.size ≤ gb802) := ⟨h4_⟩
                  have n5_ : Aside0 (gb785 ≠ gb802) := ⟨h5_⟩
                  have n6_ : Aside0 (gb802 ≠ gb785) := ⟨h6_⟩
                  have n7_ : Aside0 (gb786 ≠ gb802) := ⟨h7_⟩
                  have n8_ : Aside0 (gb802 ≠ gb786) := ⟨h8_⟩
                  have n9_ : Aside0 (Below w.heap.size w w22) := ⟨h9_⟩
                  clear BK785
                  clear BK786
                  clear HB
                  clear h0_ h1_ h2_ h3_ h4_ h5_ h6_ h7_ h8_ h9_
                  have BK785 := n0_
                  have BK786 := n1_
                  have BK802 := n2_
                  have GW802 := n3_
                  have GE802 := n4_
                  have NB785_802 := n5_
                  have NB802_785 := n6_
                  have NB786_802 := n7_
                  have NB802_786 := n8_
                  have HB := n9_
                  clear n0_ n1_ n2_ n3_ n4_ n5_ n6_ n7_ n8_ n9_
                  have hHeld : w22.cell? ⟨gb785, 0, none⟩ = some (.int .i64 a0_0) ∧ w22.cell? ⟨gb785, 1, none⟩ = some (.int .i64 a0_1) ∧ w22.cell? ⟨gb785, 2, none⟩ = some (.int .i8 a0_2) ∧ w22.cell? ⟨gb785, 3, none⟩ = some (.int .i8 a0_3) ∧ w22.cell? ⟨gb786, 0, none⟩ = some (.int .i64 a1_0) ∧ w22.cell? ⟨gb786, 1, none⟩ = some (.int .i64 a1_1) ∧ w22.cell? ⟨gb786, 2, none⟩ = some (.int .i64 a1_2) := hS_
                  refine norm_ (a' := ?_) ?_ ?_
                  rotate_left
                  · simp only [putAll, Act.put, List.setIfInBounds_toArray, List.set_cons_zero, List.set_cons_succ]
                    rfl
                  refine one_ (i := 3) (N := some 22) #[true, true, true, true, true, false, false, false, false, false, true, false, false] rfl rfl (one_of HT_.out (by kernel_rfl)) (by decide) (fun K hK => ?_)
                  refine goes_ Try.func72 (by kernel_rfl) rfl #[.agg #[.int .i64 a1_0, .int .i64 a1_1, .int .i64 a1_2]] (by rfl) rfl rfl (by (try simp only [List.map_toArray, List.map_cons, List.map_nil]); first | done | rfl | (simp only [List.length_drop, List.length_take]; rfl)) ?_
                  with_reducible refine (laws_toBath.calls a1_0 a1_1 a1_2 t792 t793 t794 _ A9.out).mono ?_
                  rintro e w23 ⟨rfl, hb⟩
                  refine ⟨_, rfl, ?_⟩
                  have n0_ := Aside0.mk (blk_below (g := gb785) (o := .cells #[.int .i64 a0_0, .int .i64 a0_1, .int .i8 a0_2, .int .i8 a0_3] 92 (0, 0)) (by (with_reducible repeat (first | refine blk_drewN ?_ _ | refine blk_drew ?_ | refine blk_alloc ?_ _)); exact BK785.out) hb)
                  have n1_ := Aside0.mk (blk_below BK786.out hb)
                  have n2_ := Aside0.mk (blk_below BK802.out hb)
                  have n3_ := Aside0.mk (below_step HB.out hb)
                  clear BK785
                  clear BK786
                  clear BK802
                  clear HB
                  have BK785 := n0_
                  have BK786 := n1_
                  have BK802 := n2_
                  have HB := n3_
                  clear n0_ n1_ n2_ n3_
                  (try clear hb)
                  (try clear hb2)
                  (try clear hk)
                  (try clear hi)
                  refine hK.out _ _ ⟨(blk_cell BK785.out 0).trans rfl, (blk_cell BK785.out 1).trans rfl, (blk_cell BK785.out 2).trans rfl, (blk_cell BK785.out 3).trans rfl, (blk_cell BK786.out 0).trans rfl, (blk_cell BK786.out 1).trans rfl, (blk_cell BK786.out 2).trans rfl⟩ (fun hHeld => ?_)
                  clear hK K
                  refine norm_ (a' := ?_) ?_ ?_
                  rotate_left
                  · show Act.put _ (some 22) _ = _
                    simp only [Act.put, List.setIfInBounds_toArray, List.set_cons_zero, List.set_cons_succ, i64_w, i32_w]
                    rfl
                  exact norm_ (by first | (simp only [putAll, Act.put, List.setIfInBounds_toArray, List.set_cons_zero, List.set_cons_succ]; done) | (simp only [putAll, Act.put, List.setIfInBounds_toArray, List.set_cons_zero, List.set_cons_succ]; rfl)) (hJ1_3_10 (gb802) _ ⟨hHeld, BK785.out, BK786.out, BK802.out, GW802.out, GE802.out, NB785_802.out, NB802_785.out, NB786_802.out, NB802_786.out, HB.out⟩)
              · skip
                rintro _ w22 ⟨hS_, h0_, h1_, h2_⟩
                have n0_ : Aside0 (w22.heap[gb785]? = some (.cells #[.int .i64 a0_0, .int .i64 a0_1, .int .i8 a0_2, .int .i8 a0_3] 92 (0, 0))) := ⟨h0_⟩
                have n1_ : Aside0 (w22.heap[gb786]? = some (.cells #[.int .i64 a1_0, .int .i64 a1_1, .int .i64 a1_2] 93 (0, 0))) := ⟨h1_⟩
                have n2_ : Aside0 (Below w.heap.size w w22) := ⟨h2_⟩
                clear BK785
                clear BK786
                clear HB
                clear h0_ h1_ h2_
                have BK785 := n0_
                have BK786 := n1_
                have HB := n2_
                clear n0_ n1_ n2_
                have hHeld : w22.cell? ⟨gb785, 0, none⟩ = some (.int .i64 a0_0) ∧ w22.cell? ⟨gb785, 1, none⟩ = some (.int .i64 a0_1) ∧ w22.cell? ⟨gb785, 2, none⟩ = some (.int .i8 a0_2) ∧ w22.cell? ⟨gb785, 3, none⟩ = some (.int .i8 a0_3) ∧ w22.cell? ⟨gb786, 0, none⟩ = some (.int .i64 a1_0) ∧ w22.cell? ⟨gb786, 1, none⟩ = some (.int .i64 a1_1) ∧ w22.cell? ⟨gb786, 2, none⟩ = some (.int .i64 a1_2) := hS_
                refine norm_ (a' := ?_) ?_ ?_
                rotate_left
                · simp only [putAll, Act.put, List.setIfInBounds_toArray, List.set_cons_zero, List.set_cons_succ]
                  rfl
                refine two_ (i := 5) (j := 10) (Ni := some 24) (Nj := some 8) #[true, true, true, true, true, true, false, false, false, false, false, false, false] #[true, true, true, true, true, false, false, false, false, false, true, false, false] rfl rfl rfl rfl (two_of HT_.out (by kernel_rfl)) (by decide) (by decide) (fun K hK => ?_) (fun K hK => ?_)
                · skip
                  refine goes_ Try.func73 (by kernel_rfl) rfl #[.slice A2 l2.length c2] (by rfl) rfl rfl (by (try simp only [List.map_toArray, List.map_cons, List.map_nil]); first | done | rfl | (simp only [List.length_drop, List.length_take]; rfl)) ?_
                  with_reducible refine (laws_toActS.calls k _ _ l2 t795 _ ?side1 ?side2 A10.out).mono ?_
                  (case side1 => repeat (first | exact (Kd.C_below HR2.out HB.out) | (with_reducible refine Kd.C_alloc ?_ _) | (with_reducible refine Kd.C_drewN ?_ _) | (with_reducible refine Kd.C_drew ?_)))
                  (case side2 => exact HC2.out)
                  rintro e w23 ⟨v796, rfl, ho0, hb⟩
                  refine ⟨_, rfl, ?_⟩
                  have n0_ := Aside0.mk (Kd.R_lower ho0 (below_size HB.out))
                  have n1_ := Aside0.mk (blk_below BK785.out hb)
                  have n2_ := Aside0.mk (blk_below BK786.out hb)
                  have n3_ := Aside0.mk (below_step HB.out hb)
                  clear BK785
                  clear BK786
                  clear HB
                  have HO797 := n0_
                  have BK785 := n1_
                  have BK786 := n2_
                  have HB := n3_
                  clear n0_ n1_ n2_ n3_
                  (try clear hb)
                  (try clear hb2)
                  (try clear hk)
                  (try clear hi)
                  (try clear ho0)
                  refine hK.out _ _ ⟨(blk_cell BK785.out 0).trans rfl, (blk_cell BK785.out 1).trans rfl, (blk_cell BK785.out 2).trans rfl, (blk_cell BK785.out 3).trans rfl, (blk_cell BK786.out 0).trans rfl, (blk_cell BK786.out 1).trans rfl, (blk_cell BK786.out 2).trans rfl⟩ (fun hHeld => ?_)
                  clear hK K
                  refine norm_ (a' := ?_) ?_ ?_
                  rotate_left
                  · show Act.put _ (some 24) _ = _
                    simp only [Act.put, List.setIfInBounds_toArray, List.set_cons_zero, List.set_cons_succ, i64_w, i32_w]
                    rfl
                  exact norm_ (by first | (simp only [putAll, Act.put, List.setIfInBounds_toArray, List.set_cons_zero, List.set_cons_succ]; done) | (simp only [putAll, Act.put, List.setIfInBounds_toArray, List.set_cons_zero, List.set_cons_succ]; rfl)) (hJ1_3_5 (v796) _ ⟨hHeld, HO797.out, BK785.out, BK786.out, HB.out⟩)
                · skip
                  refine box_step ?hg (N := 8) ?hd (cs := #[.int .i64 0, .int .i64 0, .int .i64 0]) (t := 73) ?hr ?_; (case hd => rfl); (case hg => rfl); (case hr => first | (go_simp; done) | (go_simp; rfl))
                  intro gb802 hg w23 hbox hb
                  have n0_ := Aside0.mk (blk_below (g := gb785) (o := .cells #[.int .i64 a0_0, .int .i64 a0_1, .int .i8 a0_2, .int .i8 a0_3] 92 (0, 0)) (by (with_reducible repeat (first | refine blk_drewN ?_ _ | refine blk_drew ?_ | refine blk_alloc ?_ _)); exact BK785.out) hb)
                  have n1_ := Aside0.mk (blk_below BK786.out hb)
                  have n2_ := Aside0.mk (below_step HB.out hb)
                  have n3_ := Aside0.mk (hbox)
                  have n4_ := Aside0.mk ((by rw [hg]; exact (below_size HB.out) : w.heap.size ≤ gb802))
                  have n5_ := Aside0.mk ((by rw [hg]; exact (below_size HB.out) : w.heap.size ≤ gb802))
                  have n6_ := Aside0.mk ((by rw [hg]; exact Nat.ne_of_lt (blk_lt BK785.out) : gb785 ≠ gb802))
                  have n7_ := Aside0.mk ((by rw [hg]; exact Nat.ne_of_gt (blk_lt BK785.out) : gb802 ≠ gb785))
                  have n8_ := Aside0.mk ((by rw [hg]; exact Nat.ne_of_lt (blk_lt BK786.out) : gb786 ≠ gb802))
                  have n9_ := Aside0.mk ((by rw [hg]; exact Nat.ne_of_gt (blk_lt BK786.out) : gb802 ≠ gb786))
                  clear BK785
                  clear BK786
                  clear HB
                  have BK785 := n0_
                  have BK786 := n1_
                  have HB := n2_
                  have BK802 := n3_
                  have GW802 := n4_
                  have GE802 := n5_
                  have NB785_802 := n6_
                  have NB802_785 := n7_
                  have NB786_802 := n8_
                  have NB802_786 := n9_
                  clear n0_ n1_ n2_ n3_ n4_ n5_ n6_ n7_ n8_ n9_
                  clear hb hbox hg
                  refine hK.out _ _ ⟨(blk_cell BK785.out 0).trans rfl, (blk_cell BK785.out 1).trans rfl, (blk_cell BK785.out 2).trans rfl, (blk_cell BK785.out 3).trans rfl, (blk_cell BK786.out 0).trans rfl, (blk_cell BK786.out 1).trans rfl, (blk_cell BK786.out 2).trans rfl⟩ (fun hHeld => ?_)
                  clear hK K
                  refine norm_ (a' := ?_) ?_ ?_
                  rotate_left
                  · show Act.put _ (some 8) _ = _
                    simp only [Act.put, List.setIfInBounds_toArray, List.set_cons_zero, List.set_cons_succ, i64_w, i32_w]
                    rfl
                  exact norm_ (by first | (simp only [putAll, Act.put, List.setIfInBounds_toArray, List.set_cons_zero, List.set_cons_succ]; done) | (simp only [putAll, Act.put, List.setIfInBounds_toArray, List.set_cons_zero, List.set_cons_succ]; rfl)) (hJ1_3_10 (gb802) _ ⟨hHeld, BK785.out, BK786.out, BK802.out, GW802.out, GE802.out, NB785_802.out, NB802_785.out, NB786_802.out, NB802_786.out, HB.out⟩)
            · skip
              rintro gb802 w23 ⟨hS_, h0_, h1_, h2_, h3_, h4_, h5_, h6_, h7_, h8_, h9_⟩
              have n0_ : Aside0 (w23.heap[gb785]? = some (.cells #[.int .i64 a0_0, .int .i64 a0_1, .int .i8 a0_2, .int .i8 a0_3] 92 (0, 0))) := ⟨h0_⟩
              have n1_ : Aside0 (w23.heap[gb786]? = some (.cells #[.int .i64 a1_0, .int .i64 a1_1, .int .i64 a1_2] 93 (0, 0))) := ⟨h1_⟩
              have n2_ : Aside0 (w23.heap[gb802]? = some (.cells #[.int .i64 0, .int .i64 0, .int .i64 0] 73 (0, 0))) := ⟨h2_⟩
              have n3_ : Aside0 (w.heap.size ≤ gb802) := ⟨h3_⟩
              have n4_ : Aside0 (w.heap.size ≤ gb802) := ⟨h4_⟩
              have n5_ : Aside0 (gb785 ≠ gb802) := ⟨h5_⟩
              have n6_ : Aside0 (gb802 ≠ gb785) := ⟨h6_⟩
              have n7_ : Aside0 (gb786 ≠ gb802) := ⟨h7_⟩
              have n8_ : Aside0 (gb802 ≠ gb786) := ⟨h8_⟩
              have n9_ : Aside0 (Below w.heap.size w w23) := ⟨h9_⟩
              clear BK785
              clear BK786
              clear HB
              clear h0_ h1_ h2_ h3_ h4_ h5_ h6_ h7_ h8_ h9_
              have BK785 := n0_
              have BK786 := n1_
              have BK802 := n2_
              have GW802 := n3_
              have GE802 := n4_
              have NB785_802 := n5_
              have NB802_785 := n6_
              have NB786_802 := n7_
              have NB802_786 := n8_
              have HB := n9_
              clear n0_ n1_ n2_ n3_ n4_ n5_ n6_ n7_ n8_ n9_
              have hHeld : w23.cell? ⟨gb785, 0, none⟩ = some (.int .i64 a0_0) ∧ w23.cell? ⟨gb785, 1, none⟩ = some (.int .i64 a0_1) ∧ w23.cell? ⟨gb785, 2, none⟩ = some (.int .i8 a0_2) ∧ w23.cell? ⟨gb785, 3, none⟩ = some (.int .i8 a0_3) ∧ w23.cell? ⟨gb786, 0, none⟩ = some (.int .i64 a1_0) ∧ w23.cell? ⟨gb786, 1, none⟩ = some (.int .i64 a1_1) ∧ w23.cell? ⟨gb786, 2, none⟩ = some (.int .i64 a1_2) := hS_
              refine norm_ (a' := ?_) ?_ ?_
              rotate_left
              · simp only [putAll, Act.put, List.setIfInBounds_toArray, List.set_cons_zero, List.set_cons_succ]
                rfl
              refine one_ (i := 5) (N := some 24) #[true, true, true, true, true, true, false, false, false, false, true, false, false] rfl rfl (one_of HT_.out (by kernel_rfl)) (by decide) (fun K hK => ?_)
              refine goes_ Try.func73 (by kernel_rfl) rfl #[.slice A2 l2.length c2] (by rfl) rfl rfl (by (try simp only [List.map_toArray, List.map_cons, List.map_nil]); first | done | rfl | (simp only [List.length_drop, List.length_take]; rfl)) ?_
              with_reducible refine (laws_toActS.calls k _ _ l2 t795 _ ?side1 ?side2 A10.out).mono ?_
              (case side1 => repeat (first | exact (Kd.C_below HR2.out HB.out) | (with_reducible refine Kd.C_alloc ?_ _) | (with_reducible refine Kd.C_drewN ?_ _) | (with_reducible refine Kd.C_drew ?_)))
              (case side2 => exact HC2.out)
              rintro e w24 ⟨v796, rfl, ho0, hb⟩
              refine ⟨_, rfl, ?_⟩
              have n0_ := Aside0.mk (Kd.R_lower ho0 (below_size HB.out))
              have n1_ := Aside0.mk (blk_below BK785.out hb)
              have n2_ := Aside0.mk (blk_below BK786.out hb)
              have n3_ := Aside0.mk (blk_below BK802.out hb)
              have n4_ := Aside0.mk (below_step HB.out hb)
              clear BK785
              clear BK786
              clear BK802
              clear HB
              have HO797 := n0_
              have BK785 := n1_
              have BK786 := n2_
              have BK802 := n3_
              have HB := n4_
              clear n0_ n1_ n2_ n3_ n4_
              (try clear hb)
              (try clear hb2)
              (try clear hk)
              (try clear hi)
              (try clear ho0)
              refine hK.out _ _ ⟨(blk_cell BK785.out 0).trans rfl, (blk_cell BK785.out 1).trans rfl, (blk_cell BK785.out 2).trans rfl, (blk_cell BK785.out 3).trans rfl, (blk_cell BK786.out 0).trans rfl, (blk_cell BK786.out 1).trans rfl, (blk_cell BK786.out 2).trans rfl⟩ (fun hHeld => ?_)
              clear hK K
              refine norm_ (a' := ?_) ?_ ?_
              rotate_left
              · show Act.put _ (some 24) _ = _
                simp only [Act.put, List.setIfInBounds_toArray, List.set_cons_zero, List.set_cons_succ, i64_w, i32_w]
                rfl
              exact norm_ (by first | (simp only [putAll, Act.put, List.setIfInBounds_toArray, List.set_cons_zero, List.set_cons_succ]; done) | (simp only [putAll, Act.put, List.setIfInBounds_toArray, List.set_cons_zero, List.set_cons_succ]; rfl)) (hJ1_3_5_10 (v796, gb802) _ ⟨hHeld, HO797.out, BK785.out, BK786.out, BK802.out, GW802.out, GE802.out, NB785_802.out, NB802_785.out, NB786_802.out, NB802_786.out, HB.out⟩)
          · skip
            rintro v796 w23 ⟨hS_, h0_, h1_, h2_, h3_⟩
            have n0_ : Aside0 (Kd.R k161 161 w23 w.heap.size (fun _ => True) v796 t795) := ⟨h0_⟩
            have n1_ : Aside0 (w23.heap[gb785]? = some (.cells #[.int .i64 a0_0, .int .i64 a0_1, .int .i8 a0_2, .int .i8 a0_3] 92 (0, 0))) := ⟨h1_⟩
            have n2_ : Aside0 (w23.heap[gb786]? = some (.cells #[.int .i64 a1_0, .int .i64 a1_1, .int .i64 a1_2] 93 (0, 0))) := ⟨h2_⟩
            have n3_ : Aside0 (Below w.heap.size w w23) := ⟨h3_⟩
            clear BK785
            clear BK786
            clear HB
            clear h0_ h1_ h2_ h3_
            have HO797 := n0_
            have BK785 := n1_
            have BK786 := n2_
            have HB := n3_
            clear n0_ n1_ n2_ n3_
            have hHeld : w23.cell? ⟨gb785, 0, none⟩ = some (.int .i64 a0_0) ∧ w23.cell? ⟨gb785, 1, none⟩ = some (.int .i64 a0_1) ∧ w23.cell? ⟨gb785, 2, none⟩ = some (.int .i8 a0_2) ∧ w23.cell? ⟨gb785, 3, none⟩ = some (.int .i8 a0_3) ∧ w23.cell? ⟨gb786, 0, none⟩ = some (.int .i64 a1_0) ∧ w23.cell? ⟨gb786, 1, none⟩ = some (.int .i64 a1_1) ∧ w23.cell? ⟨gb786, 2, none⟩ = some (.int .i64 a1_2) := hS_
            obtain ⟨Ao24, co24, eo24⟩ := Kd.R_slice HO797.out
            (first | subst eo24 | (injection eo24 with f1_ f2_ f3_; have f4_ := f1_.symm; have f5_ := f3_.symm; clear f1_ f2_ f3_; subst f4_; subst f5_))
            refine norm_ (a' := ?_) ?_ ?_
            rotate_left
            · simp only [putAll, Act.put, List.setIfInBounds_toArray, List.set_cons_zero, List.set_cons_succ]
              rfl
            refine two_ (i := 6) (j := 10) (Ni := some 25) (Nj := some 8) #[true, true, true, true, true, true, true, false, false, false, false, false, false] #[true, true, true, true, true, true, false, false, false, false, true, false, false] rfl rfl rfl rfl (two_of HT_.out (by kernel_rfl)) (by decide) (by decide) (fun K hK => ?_) (fun K hK => ?_)
            · skip
              refine goes_ Try.func76 (by kernel_rfl) rfl #[.agg #[.int .i64 t788, .int .i64 t789, .int .i8 t790, .int .i8 t791], .agg #[.int .i64 t792, .int .i64 t793, .int .i64 t794], .slice Ao24 t795.length co24] (by rfl) rfl rfl (by (try simp only [List.map_toArray, List.map_cons, List.map_nil]); first | done | rfl | (simp only [List.length_drop, List.length_take]; rfl)) ?_
              with_reducible refine (spec_DoActs.calls k t788 t789 t790 t791 t792 t793 t794 _ _ t795 t798 t799 t800 t801 _ ?side1 ?side2 A11.out).mono ?_
              (case side1 => repeat (first | exact (Kd.R_reads' HO797.out).2.2 | (with_reducible refine Kd.C_alloc ?_ _) | (with_reducible refine Kd.C_drewN ?_ _) | (with_reducible refine Kd.C_drew ?_)))
              (case side2 => exact (Kd.R_reads' HO797.out).2.1)
              rintro e w25 ⟨rfl, hb⟩
              refine ⟨_, rfl, ?_⟩
              have n0_ := Aside0.mk (Kd.R_below HO797.out hb)
              have n1_ := Aside0.mk (blk_below BK785.out hb)
              have n2_ := Aside0.mk (blk_below BK786.out hb)
              have n3_ := Aside0.mk (below_step HB.out hb)
              clear HO797
              clear BK785
              clear BK786
              clear HB
              have HO797 := n0_
              have BK785 := n1_
              have BK786 := n2_
              have HB := n3_
              clear n0_ n1_ n2_ n3_
              (try clear hb)
              (try clear hb2)
              (try clear hk)
              (try clear hi)
              refine hK.out _ _ ⟨(blk_cell BK785.out 0).trans rfl, (blk_cell BK785.out 1).trans rfl, (blk_cell BK785.out 2).trans rfl, (blk_cell BK785.out 3).trans rfl, (blk_cell BK786.out 0).trans rfl, (blk_cell BK786.out 1).trans rfl, (blk_cell BK786.out 2).trans rfl⟩ (fun hHeld => ?_)
              clear hK K
              refine norm_ (a' := ?_) ?_ ?_
              rotate_left
              · show Act.put _ (some 25) _ = _
                simp only [Act.put, List.setIfInBounds_toArray, List.set_cons_zero, List.set_cons_succ, i64_w, i32_w]
                rfl
              refine pure_ (i := 7) (N := some 18) (v := ?_) (a' := ?_) #[true, true, true, true, true, true, true, true, false, false, false, false, false] rfl rfl (any_of HT_.out (by kernel_rfl)) (fun _ _ _ h => h) (Or.inl ⟨by rfl, ?_⟩) ?_ ?_
              rotate_left
              · intro w'
                go_simp
                with_reducible rfl
              rotate_left
              · simp only [Act.put, List.setIfInBounds_toArray, List.set_cons_zero, List.set_cons_succ, i64_w, i32_w]
                rfl
              refine pure_ (i := 8) (N := some 26) (v := ?_) (a' := ?_) #[true, true, true, true, true, true, true, true, true, false, false, false, false] rfl rfl (any_of HT_.out (by kernel_rfl)) (fun _ _ _ h => h) (Or.inl ⟨by rfl, ?_⟩) ?_ ?_
              rotate_left
              · intro w'
                go_simp
                with_reducible rfl
              rotate_left
              · simp only [Act.put, List.setIfInBounds_toArray, List.set_cons_zero, List.set_cons_succ, i64_w, i32_w]
                rfl
              refine pure_ (i := 9) (N := some 27) (v := ?_) (a' := ?_) #[true, true, true, true, true, true, true, true, true, true, false, false, false] rfl rfl (any_of HT_.out (by kernel_rfl)) (fun _ _ _ h => h) (Or.inl ⟨by rfl, ?_⟩) ?_ ?_
              rotate_left
              · intro w'
                go_simp
                with_reducible rfl
              rotate_left
              · simp only [Act.put, List.setIfInBounds_toArray, List.set_cons_zero, List.set_cons_succ, i64_w, i32_w]
                rfl
              exact norm_ (by first | (simp only [putAll, Act.put, List.setIfInBounds_toArray, List.set_cons_zero, List.set_cons_succ]; done) | (simp only [putAll, Act.put, List.setIfInBounds_toArray, List.set_cons_zero, List.set_cons_succ]; rfl)) (hJ1_3_5_6 (.slice Ao24 t795.length co24) _ ⟨hHeld, HO797.out, BK785.out, BK786.out, HB.out⟩)
            · skip
              refine box_step ?hg (N := 8) ?hd (cs := #[.int .i64 0, .int .i64 0, .int .i64 0]) (t := 73) ?hr ?_; (case hd => rfl); (case hg => rfl); (case hr => first | (go_simp; done) | (go_simp; rfl))
              intro gb802 hg w24 hbox hb
              have n0_ := Aside0.mk (Kd.R_below HO797.out hb)
              have n1_ := Aside0.mk (blk_below BK785.out hb)
              have n2_ := Aside0.mk (blk_below BK786.out hb)
              have n3_ := Aside0.mk (below_step HB.out hb)
              have n4_ := Aside0.mk (hbox)
              have n5_ := Aside0.mk ((by rw [hg]; exact (below_size HB.out) : w.heap.size ≤ gb802))
              have n6_ := Aside0.mk ((by rw [hg]; exact (below_size HB.out) : w.heap.size ≤ gb802))
              have n7_ := Aside0.mk ((by rw [hg]; exact Nat.ne_of_lt (blk_lt BK785.out) : gb785 ≠ gb802))
              have n8_ := Aside0.mk ((by rw [hg]; exact Nat.ne_of_gt (blk_lt BK785.out) : gb802 ≠ gb785))
              have n9_ := Aside0.mk ((by rw [hg]; exact Nat.ne_of_lt (blk_lt BK786.out) : gb786 ≠ gb802))
              have n10_ := Aside0.mk ((by rw [hg]; exact Nat.ne_of_gt (blk_lt BK786.out) : gb802 ≠ gb786))
              clear HO797
              clear BK785
              clear BK786
              clear HB
              have HO797 := n0_
              have BK785 := n1_
              have BK786 := n2_
              have HB := n3_
              have BK802 := n4_
              have GW802 := n5_
              have GE802 := n6_
              have NB785_802 := n7_
              have NB802_785 := n8_
              have NB786_802 := n9_
              have NB802_786 := n10_
              clear n0_ n1_ n2_ n3_ n4_ n5_ n6_ n7_ n8_ n9_ n10_
              clear hb hbox hg
              refine hK.out _ _ ⟨(blk_cell BK785.out 0).trans rfl, (blk_cell BK785.out 1).trans rfl, (blk_cell BK785.out 2).trans rfl, (blk_cell BK785.out 3).trans rfl, (blk_cell BK786.out 0).trans rfl, (blk_cell BK786.out 1).trans rfl, (blk_cell BK786.out 2).trans rfl⟩ (fun hHeld => ?_)
              clear hK K
              refine norm_ (a' := ?_) ?_ ?_
              rotate_left
              · show Act.put _ (some 8) _ = _
                simp only [Act.put, List.setIfInBounds_toArray, List.set_cons_zero, List.set_cons_succ, i64_w, i32_w]
                rfl
              exact norm_ (by first | (simp only [putAll, Act.put, List.setIfInBounds_toArray, List.set_cons_zero, List.set_cons_succ]; done) | (simp only [putAll, Act.put, List.setIfInBounds_toArray, List.set_cons_zero, List.set_cons_succ]; rfl)) (hJ1_3_5_10 ((.slice Ao24 t795.length co24), gb802) _ ⟨hHeld, HO797.out, BK785.out, BK786.out, BK802.out, GW802.out, GE802.out, NB785_802.out, NB802_785.out, NB786_802.out, NB802_786.out, HB.out⟩)
        · skip
          rintro ⟨v796, gb802⟩ w24 ⟨hS_, h0_, h1_, h2_, h3_, h4_, h5_, h6_, h7_, h8_, h9_, h10_⟩
          have n0_ : Aside0 (Kd.R k161 161 w24 w.heap.size (fun _ => True) v796 t795) := ⟨h0_⟩
          have n1_ : Aside0 (w24.heap[gb785]? = some (.cells #[.int .i64 a0_0, .int .i64 a0_1, .int .i8 a0_2, .int .i8 a0_3] 92 (0, 0))) := ⟨h1_⟩
          have n2_ : Aside0 (w24.heap[gb786]? = some (.cells #[.int .i64 a1_0, .int .i64 a1_1, .int .i64 a1_2] 93 (0, 0))) := ⟨h2_⟩
          have n3_ : Aside0 (w24.heap[gb802]? = some (.cells #[.int .i64 0, .int .i64 0, .int .i64 0] 73 (0, 0))) := ⟨h3_⟩
          have n4_ : Aside0 (w.heap.size ≤ gb802) := ⟨h4_⟩
          have n5_ : Aside0 (w.heap.size ≤ gb802) := ⟨h5_⟩
          have n6_ : Aside0 (gb785 ≠ gb802) := ⟨h6_⟩
          have n7_ : Aside0 (gb802 ≠ gb785) := ⟨h7_⟩
          have n8_ : Aside0 (gb786 ≠ gb802) := ⟨h8_⟩
          have n9_ : Aside0 (gb802 ≠ gb786) := ⟨h9_⟩
          have n10_ : Aside0 (Below w.heap.size w w24) := ⟨h10_⟩
          clear BK785
          clear BK786
          clear HB
          clear h0_ h1_ h2_ h3_ h4_ h5_ h6_ h7_ h8_ h9_ h10_
          have HO797 := n0_
          have BK785 := n1_
          have BK786 := n2_
          have BK802 := n3_
          have GW802 := n4_
          have GE802 := n5_
          have NB785_802 := n6_
          have NB802_785 := n7_
          have NB786_802 := n8_
          have NB802_786 := n9_
          have HB := n10_
          clear n0_ n1_ n2_ n3_ n4_ n5_ n6_ n7_ n8_ n9_ n10_
          have hHeld : w24.cell? ⟨gb785, 0, none⟩ = some (.int .i64 a0_0) ∧ w24.cell? ⟨gb785, 1, none⟩ = some (.int .i64 a0_1) ∧ w24.cell? ⟨gb785, 2, none⟩ = some (.int .i8 a0_2) ∧ w24.cell? ⟨gb785, 3, none⟩ = some (.int .i8 a0_3) ∧ w24.cell? ⟨gb786, 0, none⟩ = some (.int .i64 a1_0) ∧ w24.cell? ⟨gb786, 1, none⟩ = some (.int .i64 a1_1) ∧ w24.cell? ⟨gb786, 2, none⟩ = some (.int .i64 a1_2) := hS_
          obtain ⟨Ao25, co25, eo25⟩ := Kd.R_slice HO797.out
          (first | subst eo25 | (injection eo25 with f1_ f2_ f3_; have f4_ := f1_.symm; have f5_ := f3_.symm; clear f1_ f2_ f3_; subst f4_; subst f5_))
          refine norm_ (a' := ?_) ?_ ?_
          rotate_left
          · simp only [putAll, Act.put, List.setIfInBounds_toArray, List.set_cons_zero, List.set_cons_succ]
            rfl
          refine one_ (i := 6) (N := some 25) #[true, true, true, true, true, true, true, false, false, false, true, false, false] rfl rfl (one_of HT_.out (by kernel_rfl)) (by decide) (fun K hK => ?_)
          refine goes_ Try.func76 (by kernel_rfl) rfl #[.agg #[.int .i64 t788, .int .i64 t789, .int .i8 t790, .int .i8 t791], .agg #[.int .i64 t792, .int .i64 t793, .int .i64 t794], .slice Ao25 t795.length co25] (by rfl) rfl rfl (by (try simp only [List.map_toArray, List.map_cons, List.map_nil]); first | done | rfl | (simp only [List.length_drop, List.length_take]; rfl)) ?_
          with_reducible refine (spec_DoActs.calls k t788 t789 t790 t791 t792 t793 t794 _ _ t795 t798 t799 t800 t801 _ ?side1 ?side2 A11.out).mono ?_
          (case side1 => repeat (first | exact (Kd.R_reads' HO797.out).2.2 | (with_reducible refine Kd.C_alloc ?_ _) | (with_reducible refine Kd.C_drewN ?_ _) | (with_reducible refine Kd.C_drew ?_)))
          (case side2 => exact (Kd.R_reads' HO797.out).2.1)
          rintro e w26 ⟨rfl, hb⟩
          refine ⟨_, rfl, ?_⟩
          have n0_ := Aside0.mk (Kd.R_below HO797.out hb)
          have n1_ := Aside0.mk (blk_below BK785.out hb)
          have n2_ := Aside0.mk (blk_below BK786.out hb)
          have n3_ := Aside0.mk (blk_below BK802.out hb)
          have n4_ := Aside0.mk (below_step HB.out hb)
          clear HO797
          clear BK785
          clear BK786
          clear BK802
          clear HB
          have HO797 := n0_
          have BK785 := n1_
          have BK786 := n2_
          have BK802 := n3_
          have HB := n4_
          clear n0_ n1_ n2_ n3_ n4_
          (try clear hb)
          (try clear hb2)
          (try clear hk)
          (try clear hi)
          refine hK.out _ _ ⟨(blk_cell BK785.out 0).trans rfl, (blk_cell BK785.out 1).trans rfl, (blk_cell BK785.out 2).trans rfl, (blk_cell BK785.out 3).trans rfl, (blk_cell BK786.out 0).trans rfl, (blk_cell BK786.out 1).trans rfl, (blk_cell BK786.out 2).trans rfl⟩ (fun hHeld => ?_)
          clear hK K
          refine norm_ (a' := ?_) ?_ ?_
          rotate_left
          · show Act.put _ (some 25) _ = _
            simp only [Act.put, List.setIfInBounds_toArray, List.set_cons_zero, List.set_cons_succ, i64_w, i32_w]
            rfl
          refine pure_ (i := 7) (N := some 18) (v := ?_) (a' := ?_) #[true, true, true, true, true, true, true, true, false, false, true, false, false] rfl rfl (any_of HT_.out (by kernel_rfl)) (fun _ _ _ h => h) (Or.inl ⟨by rfl, ?_⟩) ?_ ?_
          rotate_left
          · intro w'
            go_simp
            with_reducible rfl
          rotate_left
          · simp only [Act.put, List.setIfInBounds_toArray, List.set_cons_zero, List.set_cons_succ, i64_w, i32_w]
            rfl
          refine pure_ (i := 8) (N := some 26) (v := ?_) (a' := ?_) #[true, true, true, true, true, true, true, true, true, false, true, false, false] rfl rfl (any_of HT_.out (by kernel_rfl)) (fun _ _ _ h => h) (Or.inl ⟨by rfl, ?_⟩) ?_ ?_
          rotate_left
          · intro w'
            go_simp
            with_reducible rfl
          rotate_left
          · simp only [Act.put, List.setIfInBounds_toArray, List.set_cons_zero, List.set_cons_succ, i64_w, i32_w]
            rfl
          refine pure_ (i := 9) (N := some 27) (v := ?_) (a' := ?_) #[true, true, true, true, true, true, true, true, true, true, true, false, false] rfl rfl (any_of HT_.out (by kernel_rfl)) (fun _ _ _ h => h) (Or.inl ⟨by rfl, ?_⟩) ?_ ?_
          rotate_left
          · intro w'
            go_simp
            with_reducible rfl
          rotate_left
          · simp only [Act.put, List.setIfInBounds_toArray, List.set_cons_zero, List.set_cons_succ, i64_w, i32_w]
            rfl
          exact norm_ (by first | (simp only [putAll, Act.put, List.setIfInBounds_toArray, List.set_cons_zero, List.set_cons_succ]; done) | (simp only [putAll, Act.put, List.setIfInBounds_toArray, List.set_cons_zero, List.set_cons_succ]; rfl)) (hJ1_3_5_6_10 (.slice Ao25 t795.length co25, gb802) _ ⟨hHeld, HO797.out, BK785.out, BK786.out, BK802.out, GW802.out, GE802.out, NB785_802.out, NB802_785.out, NB786_802.out, NB802_786.out, HB.out⟩)
      · skip
        rintro v796 w25 ⟨hS_, h0_, h1_, h2_, h3_⟩
        have n0_ : Aside0 (Kd.R k161 161 w25 w.heap.size (fun _ => True) v796 t795) := ⟨h0_⟩
        have n1_ : Aside0 (w25.heap[gb785]? = some (.cells #[.int .i64 a0_0, .int .i64 a0_1, .int .i8 a0_2, .int .i8 a0_3] 92 (0, 0))) := ⟨h1_⟩
        have n2_ : Aside0 (w25.heap[gb786]? = some (.cells #[.int .i64 a1_0, .int .i64 a1_1, .int .i64 a1_2] 93 (0, 0))) := ⟨h2_⟩
        have n3_ : Aside0 (Below w.heap.size w w25) := ⟨h3_⟩
        clear BK785
        clear BK786
        clear HB
        clear h0_ h1_ h2_ h3_
        have HO797 := n0_
        have BK785 := n1_
        have BK786 := n2_
        have HB := n3_
        clear n0_ n1_ n2_ n3_
        have hHeld : w25.cell? ⟨gb785, 0, none⟩ = some (.int .i64 a0_0) ∧ w25.cell? ⟨gb785, 1, none⟩ = some (.int .i64 a0_1) ∧ w25.cell? ⟨gb785, 2, none⟩ = some (.int .i8 a0_2) ∧ w25.cell? ⟨gb785, 3, none⟩ = some (.int .i8 a0_3) ∧ w25.cell? ⟨gb786, 0, none⟩ = some (.int .i64 a1_0) ∧ w25.cell? ⟨gb786, 1, none⟩ = some (.int .i64 a1_1) ∧ w25.cell? ⟨gb786, 2, none⟩ = some (.int .i64 a1_2) := hS_
        refine norm_ (a' := ?_) ?_ ?_
        rotate_left
        · simp only [putAll, Act.put, List.setIfInBounds_toArray, List.set_cons_zero, List.set_cons_succ]
          rfl
        refine one_ (i := 10) (N := some 8) #[true, true, true, true, true, true, true, true, true, true, true, false, false] rfl rfl (one_of HT_.out (by kernel_rfl)) (by decide) (fun K hK => ?_)
        refine box_step ?hg (N := 8) ?hd (cs := #[.int .i64 0, .int .i64 0, .int .i64 0]) (t := 73) ?hr ?_; (case hd => rfl); (case hg => rfl); (case hr => first | (go_simp; done) | (go_simp; rfl))
        intro gb802 hg w26 hbox hb
        have n0_ := Aside0.mk (Kd.R_below HO797.out hb)
        have n1_ := Aside0.mk (blk_below BK785.out hb)
        have n2_ := Aside0.mk (blk_below BK786.out hb)
        have n3_ := Aside0.mk (below_step HB.out hb)
        have n4_ := Aside0.mk (hbox)
        have n5_ := Aside0.mk ((by rw [hg]; exact (below_size HB.out) : w.heap.size ≤ gb802))
        have n6_ := Aside0.mk ((by rw [hg]; exact (below_size HB.out) : w.heap.size ≤ gb802))
        have n7_ := Aside0.mk ((by rw [hg]; exact Nat.ne_of_lt (blk_lt BK785.out) : gb785 ≠ gb802))
        have n8_ := Aside0.mk ((by rw [hg]; exact Nat.ne_of_gt (blk_lt BK785.out) : gb802 ≠ gb785))
        have n9_ := Aside0.mk ((by rw [hg]; exact Nat.ne_of_lt (blk_lt BK786.out) : gb786 ≠ gb802))
        have n10_ := Aside0.mk ((by rw [hg]; exact Nat.ne_of_gt (blk_lt BK786.out) : gb802 ≠ gb786))
        clear HO797
        clear BK785
        clear BK786
        clear HB
        have HO797 := n0_
        have BK785 := n1_
        have BK786 := n2_
        have HB := n3_
        have BK802 := n4_
        have GW802 := n5_
        have GE802 := n6_
        have NB785_802 := n7_
        have NB802_785 := n8_
        have NB786_802 := n9_
        have NB802_786 := n10_
        clear n0_ n1_ n2_ n3_ n4_ n5_ n6_ n7_ n8_ n9_ n10_
        clear hb hbox hg
        refine hK.out _ _ ⟨(blk_cell BK785.out 0).trans rfl, (blk_cell BK785.out 1).trans rfl, (blk_cell BK785.out 2).trans rfl, (blk_cell BK785.out 3).trans rfl, (blk_cell BK786.out 0).trans rfl, (blk_cell BK786.out 1).trans rfl, (blk_cell BK786.out 2).trans rfl⟩ (fun hHeld => ?_)
        clear hK K
        refine norm_ (a' := ?_) ?_ ?_
        rotate_left
        · show Act.put _ (some 8) _ = _
          simp only [Act.put, List.setIfInBounds_toArray, List.set_cons_zero, List.set_cons_succ, i64_w, i32_w]
          rfl
        exact norm_ (by first | (simp only [putAll, Act.put, List.setIfInBounds_toArray, List.set_cons_zero, List.set_cons_succ]; done) | (simp only [putAll, Act.put, List.setIfInBounds_toArray, List.set_cons_zero, List.set_cons_succ]; rfl)) (hJ1_3_5_6_10 (v796, gb802) _ ⟨hHeld, HO797.out, BK785.out, BK786.out, BK802.out, GW802.out, GE802.out, NB785_802.out, NB802_785.out, NB786_802.out, NB802_786.out, HB.out⟩)
    rintro ⟨v796, gb802⟩ w26 ⟨hS_, h0_, h1_, h2_, h3_, h4_, h5_, h6_, h7_, h8_, h9_, h10_⟩
    have n0_ : Aside0 (Kd.R k161 161 w26 w.heap.size (fun _ => True) v796 t795) := ⟨h0_⟩
    have n1_ : Aside0 (w26.heap[gb785]? = some (.cells #[.int .i64 a0_0, .int .i64 a0_1, .int .i8 a0_2, .int .i8 a0_3] 92 (0, 0))) := ⟨h1_⟩
    have n2_ : Aside0 (w26.heap[gb786]? = some (.cells #[.int .i64 a1_0, .int .i64 a1_1, .int .i64 a1_2] 93 (0, 0))) := ⟨h2_⟩
    have n3_ : Aside0 (w26.heap[gb802]? = some (.cells #[.int .i64 0, .int .i64 0, .int .i64 0] 73 (0, 0))) := ⟨h3_⟩
    have n4_ : Aside0 (w.heap.size ≤ gb802) := ⟨h4_⟩
    have n5_ : Aside0 (w.heap.size ≤ gb802) := ⟨h5_⟩
    have n6_ : Aside0 (gb785 ≠ gb802) := ⟨h6_⟩
    have n7_ : Aside0 (gb802 ≠ gb785) := ⟨h7_⟩
    have n8_ : Aside0 (gb786 ≠ gb802) := ⟨h8_⟩
    have n9_ : Aside0 (gb802 ≠ gb786) := ⟨h9_⟩
    have n10_ : Aside0 (Below w.heap.size w w26) := ⟨h10_⟩
    clear BK785
    clear BK786
    clear HB
    clear h0_ h1_ h2_ h3_ h4_ h5_ h6_ h7_ h8_ h9_ h10_
    have HO797 := n0_
    have BK785 := n1_
    have BK786 := n2_
    have BK802 := n3_
    have GW802 := n4_
    have GE802 := n5_
    have NB785_802 := n6_
    have NB802_785 := n7_
    have NB786_802 := n8_
    have NB802_786 := n9_
    have HB := n10_
    clear n0_ n1_ n2_ n3_ n4_ n5_ n6_ n7_ n8_ n9_ n10_
    have hHeld : w26.cell? ⟨gb785, 0, none⟩ = some (.int .i64 a0_0) ∧ w26.cell? ⟨gb785, 1, none⟩ = some (.int .i64 a0_1) ∧ w26.cell? ⟨gb785, 2, none⟩ = some (.int .i8 a0_2) ∧ w26.cell? ⟨gb785, 3, none⟩ = some (.int .i8 a0_3) ∧ w26.cell? ⟨gb786, 0, none⟩ = some (.int .i64 a1_0) ∧ w26.cell? ⟨gb786, 1, none⟩ = some (.int .i64 a1_1) ∧ w26.cell? ⟨gb786, 2, none⟩ = some (.int .i64 a1_2) := hS_
    refine norm_ (a' := ?_) ?_ ?_
    rotate_left
    · simp only [putAll, Act.put, List.setIfInBounds_toArray, List.set_cons_zero, List.set_cons_succ]
      rfl
    refine one_ (i := 11) (N := none) #[true, true, true, true, true, true, true, true, true, true, true, true, false] rfl rfl (one_of HT_.out (by kernel_rfl)) (by decide) (fun K hK => ?_)
    have hs27 : w26.cell? ⟨gb802, 0, none⟩ = some (.int .i64 0) := (blk_cell BK802.out 0).trans rfl
    have hfs27 := blk_frozen BK802.out 0
    have hns27_0 := NB785_802.out
    have hns27_1 := NB786_802.out
    have hms27_0 := NB802_785.out
    have hms27_1 := NB802_786.out
    have hs28 : w26.cell? ⟨gb802, 1, none⟩ = some (.int .i64 0) := (blk_cell BK802.out 1).trans rfl
    have hfs28 := blk_frozen BK802.out 1
    have hns28_0 := NB785_802.out
    have hns28_1 := NB786_802.out
    have hms28_0 := NB802_785.out
    have hms28_1 := NB802_786.out
    have hs29 : w26.cell? ⟨gb802, 2, none⟩ = some (.int .i64 0) := (blk_cell BK802.out 2).trans rfl
    have hfs29 := blk_frozen BK802.out 2
    have hns29_0 := NB785_802.out
    have hns29_1 := NB786_802.out
    have hms29_0 := NB802_785.out
    have hms29_1 := NB802_786.out
    refine skip_ (w1 := ?_) (by rfl) rfl ?_ ?_
    rotate_left
    · go_simp
      rfl
    refine hK.out _ _ ⟨((cell_far (p := ⟨gb802, _, none⟩) NB785_802.out _).trans (((cell_far (p := ⟨gb802, _, none⟩) NB785_802.out _).trans (((cell_far (p := ⟨gb802, _, none⟩) NB785_802.out _).trans (hHeld.1)))))), ((cell_far (p := ⟨gb802, _, none⟩) NB785_802.out _).trans (((cell_far (p := ⟨gb802, _, none⟩) NB785_802.out _).trans (((cell_far (p := ⟨gb802, _, none⟩) NB785_802.out _).trans (hHeld.2.1)))))), ((cell_far (p := ⟨gb802, _, none⟩) NB785_802.out _).trans (((cell_far (p := ⟨gb802, _, none⟩) NB785_802.out _).trans (((cell_far (p := ⟨gb802, _, none⟩) NB785_802.out _).trans (hHeld.2.2.1)))))), ((cell_far (p := ⟨gb802, _, none⟩) NB785_802.out _).trans (((cell_far (p := ⟨gb802, _, none⟩) NB785_802.out _).trans (((cell_far (p := ⟨gb802, _, none⟩) NB785_802.out _).trans (hHeld.2.2.2.1)))))), ((cell_far (p := ⟨gb802, _, none⟩) NB786_802.out _).trans (((cell_far (p := ⟨gb802, _, none⟩) NB786_802.out _).trans (((cell_far (p := ⟨gb802, _, none⟩) NB786_802.out _).trans (hHeld.2.2.2.2.1)))))), ((cell_far (p := ⟨gb802, _, none⟩) NB786_802.out _).trans (((cell_far (p := ⟨gb802, _, none⟩) NB786_802.out _).trans (((cell_far (p := ⟨gb802, _, none⟩) NB786_802.out _).trans (hHeld.2.2.2.2.2.1)))))), ((cell_far (p := ⟨gb802, _, none⟩) NB786_802.out _).trans (((cell_far (p := ⟨gb802, _, none⟩) NB786_802.out _).trans (((cell_far (p := ⟨gb802, _, none⟩) NB786_802.out _).trans (hHeld.2.2.2.2.2.2))))))⟩ (fun hHeld => ?_)
    clear hK K
    refine pure_ (i := 12) (N := some 9) (v := ?_) (a' := ?_) #[true, true, true, true, true, true, true, true, true, true, true, true, true] rfl rfl (any_of HT_.out (by kernel_rfl)) (fun _ _ _ h => h) (Or.inl ⟨by rfl, ?_⟩) ?_ ?_
    rotate_left
    · intro w'
      go_simp
      with_reducible rfl
    rotate_left
    · simp only [Act.put, List.setIfInBounds_toArray, List.set_cons_zero, List.set_cons_succ, i64_w, i32_w]
      rfl
    refine done_ (done_of HT_.out (by kernel_rfl)) ?_
    try go_wp2_with (first | ((with_reducible refine gate_callee (f := 73) rfl ?_); refine goesL_ (some 29) rfl rfl Try.func73 (by kernel_rfl) rfl #[.slice A2 l2.length c2] rfl (by (try simp only [List.map_toArray, List.map_cons, List.map_nil]); first | done | rfl | (simp only [List.length_drop, List.length_take]; rfl)) ?_; (with_reducible refine (laws_toActS.calls k _ _ l2 t803 _ ?side1 ?side2 A12.out).mono ?_); (case side1 => exact Kd.C_below HR2.out (by repeat (first | (with_reducible first | exact HB.out | apply below_alloc | apply pw_below_drewN | apply below_drew1 | refine below_set ?_ GE785.out | refine below_set ?_ GE786.out | refine below_set ?_ GE802.out) | exact HB.out))); (case side2 => exact HC2.out); rintro e w30 ⟨v804, rfl, ho0, hb⟩; refine ⟨_, rfl, ?_⟩; have n0_ := Aside0.mk (Kd.R_elder' (by (with_reducible repeat (first | apply Kd.R_alloc | apply Kd.R_drewN | apply Kd.R_drew)); exact (Kd.R_mono (Kd.R_far (p := ⟨gb802, 2, none⟩) (Kd.R_far (p := ⟨gb802, 1, none⟩) (Kd.R_far (p := ⟨gb802, 0, none⟩) (Kd.R_types HO797.out BK802.out (by decide)) (fun _ hk => hk.2) (.int .i64 t798)) (fun _ hk => hk.2) (.int .i64 t799)) (fun _ hk => hk.2) (.int .i64 t800)) (fun _ h_ => h_.1))) (Kd.R_base ho0) hb); have n1_ := Aside0.mk (Kd.R_lower (Kd.R_new' ho0 (Kd.R_lt (by (with_reducible repeat (first | apply Kd.R_alloc | apply Kd.R_drewN | apply Kd.R_drew)); exact (Kd.R_mono (Kd.R_far (p := ⟨gb802, 2, none⟩) (Kd.R_far (p := ⟨gb802, 1, none⟩) (Kd.R_far (p := ⟨gb802, 0, none⟩) (Kd.R_types HO797.out BK802.out (by decide)) (fun _ hk => hk.2) (.int .i64 t798)) (fun _ hk => hk.2) (.int .i64 t799)) (fun _ hk => hk.2) (.int .i64 t800)) (fun _ h_ => h_.1))))) (below_size (by repeat (first | (with_reducible first | exact HB.out | apply below_alloc | apply pw_below_drewN | apply below_drew1 | refine below_set ?_ GE785.out | refine below_set ?_ GE786.out | refine below_set ?_ GE802.out) | exact HB.out)))); have n2_ := Aside0.mk (blk_below (g := gb785) (o := .cells #[.int .i64 a0_0, .int .i64 a0_1, .int .i8 a0_2, .int .i8 a0_3] 92 (0, 0)) (by (with_reducible repeat (first | refine blk_drewN ?_ _ | refine blk_drew ?_ | refine blk_alloc ?_ _)); refine blk_far ?_ NB785_802.out _; (with_reducible repeat (first | refine blk_drewN ?_ _ | refine blk_drew ?_ | refine blk_alloc ?_ _)); refine blk_far ?_ NB785_802.out _; (with_reducible repeat (first | refine blk_drewN ?_ _ | refine blk_drew ?_ | refine blk_alloc ?_ _)); refine blk_far ?_ NB785_802.out _; (with_reducible repeat (first | refine blk_drewN ?_ _ | refine blk_drew ?_ | refine blk_alloc ?_ _)); exact BK785.out) hb); have n3_ := Aside0.mk (blk_below (g := gb786) (o := .cells #[.int .i64 a1_0, .int .i64 a1_1, .int .i64 a1_2] 93 (0, 0)) (by (with_reducible repeat (first | refine blk_drewN ?_ _ | refine blk_drew ?_ | refine blk_alloc ?_ _)); refine blk_far ?_ NB786_802.out _; (with_reducible repeat (first | refine blk_drewN ?_ _ | refine blk_drew ?_ | refine blk_alloc ?_ _)); refine blk_far ?_ NB786_802.out _; (with_reducible repeat (first | refine blk_drewN ?_ _ | refine blk_drew ?_ | refine blk_alloc ?_ _)); refine blk_far ?_ NB786_802.out _; (with_reducible repeat (first | refine blk_drewN ?_ _ | refine blk_drew ?_ | refine blk_alloc ?_ _)); exact BK786.out) hb); have n4_ := Aside0.mk (blk_below (g := gb802) (o := .cells #[.int .i64 t798, .int .i64 t799, .int .i64 t800] 73 (0, 0)) (by (with_reducible repeat (first | refine blk_drewN ?_ _ | refine blk_drew ?_ | refine blk_alloc ?_ _)); refine blk_put (cs := #[.int .i64 t798, .int .i64 t799, .int .i64 0]) ?_ 2 _ rfl; (with_reducible repeat (first | refine blk_drewN ?_ _ | refine blk_drew ?_ | refine blk_alloc ?_ _)); refine blk_put (cs := #[.int .i64 t798, .int .i64 0, .int .i64 0]) ?_ 1 _ rfl; (with_reducible repeat (first | refine blk_drewN ?_ _ | refine blk_drew ?_ | refine blk_alloc ?_ _)); refine blk_put (cs := #[.int .i64 0, .int .i64 0, .int .i64 0]) ?_ 0 _ rfl; (with_reducible repeat (first | refine blk_drewN ?_ _ | refine blk_drew ?_ | refine blk_alloc ?_ _)); exact BK802.out) hb); have n5_ := Aside0.mk (below_step (by repeat (first | (with_reducible first | exact HB.out | apply below_alloc | apply pw_below_drewN | apply below_drew1 | refine below_set ?_ GE785.out | refine below_set ?_ GE786.out | refine below_set ?_ GE802.out) | exact HB.out)) hb); clear HO797; clear BK785; clear BK786; clear BK802; clear HB; have HO797 := n0_; have HO805 := n1_; have BK785 := n2_; have BK786 := n3_; have BK802 := n4_; have HB := n5_; clear n0_ n1_ n2_ n3_ n4_ n5_; (try clear hb); (try clear hb2); (try clear hk); (try clear hi); (try clear ho0); obtain ⟨Ao31, co31, eo31⟩ := Kd.R_slice HO805.out; subst eo31))
    have n0_ := Aside0.mk (Kd.R_drew HO797.out)
    have n1_ := Aside0.mk (Kd.R_drew HO805.out)
    have n2_ := Aside0.mk (blk_drew BK785.out)
    have n3_ := Aside0.mk (blk_drew BK786.out)
    have n4_ := Aside0.mk (blk_drew BK802.out)
    have n5_ := Aside0.mk (below_drew1 HB.out)
    clear HO797
    clear HO805
    clear BK785
    clear BK786
    clear BK802
    clear HB
    have HO797 := n0_
    have HO805 := n1_
    have BK785 := n2_
    have BK786 := n3_
    have BK802 := n4_
    have HB := n5_
    clear n0_ n1_ n2_ n3_ n4_ n5_
    refine start_ (n := 12) (S := fun w' => w'.cell? ⟨gb785, 0, none⟩ = some (.int .i64 a0_0) ∧ w'.cell? ⟨gb785, 1, none⟩ = some (.int .i64 a0_1) ∧ w'.cell? ⟨gb785, 2, none⟩ = some (.int .i8 a0_2) ∧ w'.cell? ⟨gb785, 3, none⟩ = some (.int .i8 a0_3) ∧ w'.cell? ⟨gb786, 0, none⟩ = some (.int .i64 a1_0) ∧ w'.cell? ⟨gb786, 1, none⟩ = some (.int .i64 a1_1) ∧ w'.cell? ⟨gb786, 2, none⟩ = some (.int .i64 a1_2)) (ds := []) #[false, false, false, false, false, false, false, false, false, false, false, false] (by kernel_rfl) rfl rfl ⟨(blk_cell BK785.out 0).trans rfl, (blk_cell BK785.out 1).trans rfl, (blk_cell BK785.out 2).trans rfl, (blk_cell BK785.out 3).trans rfl, (blk_cell BK786.out 0).trans rfl, (blk_cell BK786.out 1).trans rfl, (blk_cell BK786.out 2).trans rfl⟩ (fun hHeld => ?_); refine with_tabW laws_FnExactDoActs.tab7 laws_FnExactDoActs.bits7 (fun HT_ HW_ => ?_)
    generalize w30.drew = w32 at HO797 HO805 BK785 BK786 BK802 HB hHeld ⊢
    refine pure_ (i := 4) (N := some 35) (v := ?_) (a' := ?_) #[false, false, false, false, true, false, false, false, false, false, false, false] rfl rfl (any_of HT_.out (by kernel_rfl)) (fun _ _ _ h => h) (Or.inl ⟨by rfl, ?_⟩) ?_ ?_
    rotate_left
    · intro w'
      go_simp
      with_reducible rfl
    rotate_left
    · simp only [Act.put, List.setIfInBounds_toArray, List.set_cons_zero, List.set_cons_succ, i64_w, i32_w]
      rfl
    refine take_ (i := 0) (N := some 31) (v := ?_) (a' := ?_) #[true, false, false, false, true, false, false, false, false, false, false, false] rfl rfl (take_ofW HT_.out HW_.out (by kernel_rfl)) (fun _ _ _ h => h) (Or.inl ⟨by rfl, ?_⟩) hHeld ?_ ?_
    rotate_left
    · rintro w' ⟨s0, s1, s2, s3, s4, s5, s6⟩
      go_simp
      with_reducible rfl
    rotate_left
    · simp only [Act.put, List.setIfInBounds_toArray, List.set_cons_zero, List.set_cons_succ, i64_w, i32_w]
      rfl
    refine take_ (i := 2) (N := some 33) (v := ?_) (a' := ?_) #[true, false, true, false, true, false, false, false, false, false, false, false] rfl rfl (take_ofW HT_.out HW_.out (by kernel_rfl)) (fun _ _ _ h => h) (Or.inl ⟨by rfl, ?_⟩) hHeld ?_ ?_
    rotate_left
    · rintro w' ⟨s0, s1, s2, s3, s4, s5, s6⟩
      go_simp
      with_reducible rfl
    rotate_left
    · simp only [Act.put, List.setIfInBounds_toArray, List.set_cons_zero, List.set_cons_succ, i64_w, i32_w]
      rfl
    refine join_ (σ := Nat) 2 #[true, true, true, true, true, true, true, true, true, true, false, false] (fun s_ => [(32, .agg #[.int .i64 t806, .int .i64 t807, .int .i8 t808, .int .i8 t809]), (34, .agg #[.int .i64 t810, .int .i64 t811, .int .i64 t812]), (36, .tuple #[.agg #[.int .i64 t813, .int .i64 t814, .int .i64 t815], .int .i64 t816]), (11, .pointer (some ⟨s_, 0, none⟩)), (30, .tuple #[.agg #[.int .i64 t813, .int .i64 t814, .int .i64 t815], .int .i64 t816]), (37, .agg #[.int .i64 t813, .int .i64 t814, .int .i64 t815]), (38, .int .i64 t816)]) (fun s_ w' => (w'.cell? ⟨gb785, 0, none⟩ = some (.int .i64 a0_0) ∧ w'.cell? ⟨gb785, 1, none⟩ = some (.int .i64 a0_1) ∧ w'.cell? ⟨gb785, 2, none⟩ = some (.int .i8 a0_2) ∧ w'.cell? ⟨gb785, 3, none⟩ = some (.int .i8 a0_3) ∧ w'.cell? ⟨gb786, 0, none⟩ = some (.int .i64 a1_0) ∧ w'.cell? ⟨gb786, 1, none⟩ = some (.int .i64 a1_1) ∧ w'.cell? ⟨gb786, 2, none⟩ = some (.int .i64 a1_2)) ∧ (Kd.R k161 161 w' w.heap.size (fun k_ => some k_ ≠ (.slice Ao31 t803.length co31 : Value).ownBlock) v796 t795) ∧ (Kd.R k161 161 w' w.heap.size (fun k_ => some k_ ≠ (v796 : Value).ownBlock) (.slice Ao31 t803.length co31) t803) ∧ (w'.heap[gb785]? = some (.cells #[.int .i64 a0_0, .int .i64 a0_1, .int .i8 a0_2, .int .i8 a0_3] 92 (0, 0))) ∧ (w'.heap[gb786]? = some (.cells #[.int .i64 a1_0, .int .i64 a1_1, .int .i64 a1_2] 93 (0, 0))) ∧ (w'.heap[gb802]? = some (.cells #[.int .i64 t798, .int .i64 t799, .int .i64 t800] 73 (0, 0))) ∧ (w'.heap[s_]? = some (.cells #[.int .i64 0, .int .i64 0, .int .i64 0] 73 (0, 0))) ∧ (w.heap.size ≤ s_) ∧ (w.heap.size ≤ s_) ∧ (gb785 ≠ s_) ∧ (s_ ≠ gb785) ∧ (gb786 ≠ s_) ∧ (s_ ≠ gb786) ∧ (gb802 ≠ s_) ∧ (s_ ≠ gb802) ∧ (Below w.heap.size w w')) ?_ ?_
    rotate_left
    · intro hCont
      refine two_ (i := 1) (j := 9) (Ni := some 32) (Nj := some 11) #[true, true, true, false, true, false, false, false, false, false, false, false] #[true, false, true, false, true, false, false, false, false, true, false, false] rfl rfl rfl rfl (two_of HT_.out (by kernel_rfl)) (by decide) (by decide) (fun K hK => ?_) (fun K hK => ?_)
      · skip
        refine goes_ Try.func71 (by kernel_rfl) rfl #[.agg #[.int .i64 a0_0, .int .i64 a0_1, .int .i8 a0_2, .int .i8 a0_3]] (by rfl) rfl rfl (by (try simp only [List.map_toArray, List.map_cons, List.map_nil]); first | done | rfl | (simp only [List.length_drop, List.length_take]; rfl)) ?_
        with_reducible refine (laws_toDeveloper.calls a0_0 a0_1 a0_2 a0_3 t806 t807 t808 t809 _ A13.out).mono ?_
        rintro e w33 ⟨rfl, hb⟩
        refine ⟨_, rfl, ?_⟩
        have n0_ := Aside0.mk (Kd.R_below HO797.out hb)
        have n1_ := Aside0.mk (Kd.R_below HO805.out hb)
        have n2_ := Aside0.mk (blk_below BK785.out hb)
        have n3_ := Aside0.mk (blk_below BK786.out hb)
        have n4_ := Aside0.mk (blk_below BK802.out hb)
        have n5_ := Aside0.mk (below_step HB.out hb)
        clear HO797
        clear HO805
        clear BK785
        clear BK786
        clear BK802
        clear HB
        have HO797 := n0_
        have HO805 := n1_
        have BK785 := n2_
        have BK786 := n3_
        have BK802 := n4_
        have HB := n5_
        clear n0_ n1_ n2_ n3_ n4_ n5_
        (try clear hb)
        (try clear hb2)
        (try clear hk)
        (try clear hi)
        refine hK.out _ _ ⟨(blk_cell BK785.out 0).trans rfl, (blk_cell BK785.out 1).trans rfl, (blk_cell BK785.out 2).trans rfl, (blk_cell BK785.out 3).trans rfl, (blk_cell BK786.out 0).trans rfl, (blk_cell BK786.out 1).trans rfl, (blk_cell BK786.out 2).trans rfl⟩ (fun hHeld => ?_)
        clear hK K
        refine norm_ (a' := ?_) ?_ ?_
        rotate_left
        · show Act.put _ (some 32) _ = _
          simp only [Act.put, List.setIfInBounds_toArray, List.set_cons_zero, List.set_cons_succ, i64_w, i32_w]
          rfl
        refine two_ (i := 3) (j := 9) (Ni := some 34) (Nj := some 11) #[true, true, true, true, true, false, false, false, false, false, false, false] #[true, true, true, false, true, false, false, false, false, true, false, false] rfl rfl rfl rfl (two_of HT_.out (by kernel_rfl)) (by decide) (by decide) (fun K hK => ?_) (fun K hK => ?_)
        · skip
          refine goes_ Try.func72 (by kernel_rfl) rfl #[.agg #[.int .i64 a1_0, .int .i64 a1_1, .int .i64 a1_2]] (by rfl) rfl rfl (by (try simp only [List.map_toArray, List.map_cons, List.map_nil]); first | done | rfl | (simp only [List.length_drop, List.length_take]; rfl)) ?_
          with_reducible refine (laws_toBath.calls a1_0 a1_1 a1_2 t810 t811 t812 _ A14.out).mono ?_
          rintro e w34 ⟨rfl, hb⟩
          refine ⟨_, rfl, ?_⟩
          have n0_ := Aside0.mk (Kd.R_below HO797.out hb)
          have n1_ := Aside0.mk (Kd.R_below HO805.out hb)
          have n2_ := Aside0.mk (blk_below BK785.out hb)
          have n3_ := Aside0.mk (blk_below BK786.out hb)
          have n4_ := Aside0.mk (blk_below BK802.out hb)
          have n5_ := Aside0.mk (below_step HB.out hb)
          clear HO797
          clear HO805
          clear BK785
          clear BK786
          clear BK802
          clear HB
          have HO797 := n0_
          have HO805 := n1_
          have BK785 := n2_
          have BK786 := n3_
          have BK802 := n4_
          have HB := n5_
          clear n0_ n1_ n2_ n3_ n4_ n5_
          (try clear hb)
          (try clear hb2)
          (try clear hk)
          (try clear hi)
          refine hK.out _ _ ⟨(blk_cell BK785.out 0).trans rfl, (blk_cell BK785.out 1).trans rfl, (blk_cell BK785.out 2).trans rfl, (blk_cell BK785.out 3).trans rfl, (blk_cell BK786.out 0).trans rfl, (blk_cell BK786.out 1).trans rfl, (blk_cell BK786.out 2).trans rfl⟩ (fun hHeld => ?_)
          clear hK K
          refine norm_ (a' := ?_) ?_ ?_
          rotate_left
          · show Act.put _ (some 34) _ = _
            simp only [Act.put, List.setIfInBounds_toArray, List.set_cons_zero, List.set_cons_succ, i64_w, i32_w]
            rfl
          refine two_ (i := 5) (j := 9) (Ni := some 36) (Nj := some 11) #[true, true, true, true, true, true, false, false, false, false, false, false] #[true, true, true, true, true, false, false, false, false, true, false, false] rfl rfl rfl rfl (two_of HT_.out (by kernel_rfl)) (by decide) (by decide) (fun K hK => ?_) (fun K hK => ?_)
          · skip
            refine goes_ Try.func77 (by kernel_rfl) rfl #[.agg #[.int .i64 t806, .int .i64 t807, .int .i8 t808, .int .i8 t809], .agg #[.int .i64 t810, .int .i64 t811, .int .i64 t812], .slice Ao31 t803.length co31] (by rfl) rfl rfl (by (try simp only [List.map_toArray, List.map_cons, List.map_nil]); first | done | rfl | (simp only [List.length_drop, List.length_take]; rfl)) ?_
            with_reducible refine (impl_DoActs.calls k t806 t807 t808 t809 t810 t811 t812 _ _ t803 t813 t814 t815 t816 _ ?side1 ?side2 A15.out).mono ?_
            (case side1 => repeat (first | exact (Kd.R_reads' HO805.out).2.2 | (with_reducible refine Kd.C_alloc ?_ _) | (with_reducible refine Kd.C_drewN ?_ _) | (with_reducible refine Kd.C_drew ?_)))
            (case side2 => exact (Kd.R_reads' HO805.out).2.1)
            rintro e w35 ⟨rfl, hb⟩
            refine ⟨_, rfl, ?_⟩
            have n0_ := Aside0.mk (Kd.R_below HO797.out hb)
            have n1_ := Aside0.mk (Kd.R_below HO805.out hb)
            have n2_ := Aside0.mk (blk_below BK785.out hb)
            have n3_ := Aside0.mk (blk_below BK786.out hb)
            have n4_ := Aside0.mk (blk_below BK802.out hb)
            have n5_ := Aside0.mk (below_step HB.out hb)
            clear HO797
            clear HO805
            clear BK785
            clear BK786
            clear BK802
            clear HB
            have HO797 := n0_
            have HO805 := n1_
            have BK785 := n2_
            have BK786 := n3_
            have BK802 := n4_
            have HB := n5_
            clear n0_ n1_ n2_ n3_ n4_ n5_
            (try clear hb)
            (try clear hb2)
            (try clear hk)
            (try clear hi)
            refine hK.out _ _ ⟨(blk_cell BK785.out 0).trans rfl, (blk_cell BK785.out 1).trans rfl, (blk_cell BK785.out 2).trans rfl, (blk_cell BK785.out 3).trans rfl, (blk_cell BK786.out 0).trans rfl, (blk_cell BK786.out 1).trans rfl, (blk_cell BK786.out 2).trans rfl⟩ (fun hHeld => ?_)
            clear hK K
            refine norm_ (a' := ?_) ?_ ?_
            rotate_left
            · show Act.put _ (some 36) _ = _
              simp only [Act.put, List.setIfInBounds_toArray, List.set_cons_zero, List.set_cons_succ, i64_w, i32_w]
              rfl
            refine pure_ (i := 6) (N := some 30) (v := ?_) (a' := ?_) #[true, true, true, true, true, true, true, false, false, false, false, false] rfl rfl (any_of HT_.out (by kernel_rfl)) (fun _ _ _ h => h) (Or.inl ⟨by rfl, ?_⟩) ?_ ?_
            rotate_left
            · intro w'
              go_simp
              with_reducible rfl
            rotate_left
            · simp only [Act.put, List.setIfInBounds_toArray, List.set_cons_zero, List.set_cons_succ, i64_w, i32_w]
              rfl
            refine pure_ (i := 7) (N := some 37) (v := ?_) (a' := ?_) #[true, true, true, true, true, true, true, true, false, false, false, false] rfl rfl (any_of HT_.out (by kernel_rfl)) (fun _ _ _ h => h) (Or.inl ⟨by rfl, ?_⟩) ?_ ?_
            rotate_left
            · intro w'
              go_simp
              with_reducible rfl
            rotate_left
            · simp only [Act.put, List.setIfInBounds_toArray, List.set_cons_zero, List.set_cons_succ, i64_w, i32_w]
              rfl
            refine pure_ (i := 8) (N := some 38) (v := ?_) (a' := ?_) #[true, true, true, true, true, true, true, true, true, false, false, false] rfl rfl (any_of HT_.out (by kernel_rfl)) (fun _ _ _ h => h) (Or.inl ⟨by rfl, ?_⟩) ?_ ?_
            rotate_left
            · intro w'
              go_simp
              with_reducible rfl
            rotate_left
            · simp only [Act.put, List.setIfInBounds_toArray, List.set_cons_zero, List.set_cons_succ, i64_w, i32_w]
              rfl
            refine one_ (i := 9) (N := some 11) #[true, true, true, true, true, true, true, true, true, true, false, false] rfl rfl (one_of HT_.out (by kernel_rfl)) (by decide) (fun K hK => ?_)
            refine box_step ?hg (N := 11) ?hd (cs := #[.int .i64 0, .int .i64 0, .int .i64 0]) (t := 73) ?hr ?_; (case hd => rfl); (case hg => rfl); (case hr => first | (go_simp; done) | (go_simp; rfl))
            intro gb817 hg w36 hbox hb
            have n0_ := Aside0.mk (Kd.R_below HO797.out hb)
            have n1_ := Aside0.mk (Kd.R_below HO805.out hb)
            have n2_ := Aside0.mk (blk_below BK785.out hb)
            have n3_ := Aside0.mk (blk_below BK786.out hb)
            have n4_ := Aside0.mk (blk_below BK802.out hb)
            have n5_ := Aside0.mk (below_step HB.out hb)
            have n6_ := Aside0.mk (hbox)
            have n7_ := Aside0.mk ((by rw [hg]; exact (below_size HB.out) : w.heap.size ≤ gb817))
            have n8_ := Aside0.mk ((by rw [hg]; exact (below_size HB.out) : w.heap.size ≤ gb817))
            have n9_ := Aside0.mk ((by rw [hg]; exact Nat.ne_of_lt (blk_lt BK785.out) : gb785 ≠ gb817))
            have n10_ := Aside0.mk ((by rw [hg]; exact Nat.ne_of_gt (blk_lt BK785.out) : gb817 ≠ gb785))
            have n11_ := Aside0.mk ((by rw [hg]; exact Nat.ne_of_lt (blk_lt BK786.out) : gb786 ≠ gb817))
            have n12_ := Aside0.mk ((by rw [hg]; exact Nat.ne_of_gt (blk_lt BK786.out) : gb817 ≠ gb786))
            have n13_ := Aside0.mk ((by rw [hg]; exact Nat.ne_of_lt (blk_lt BK802.out) : gb802 ≠ gb817))
            have n14_ := Aside0.mk ((by rw [hg]; exact Nat.ne_of_gt (blk_lt BK802.out) : gb817 ≠ gb802))
            clear HO797
            clear HO805
            clear BK785
            clear BK786
            clear BK802
            clear HB
            have HO797 := n0_
            have HO805 := n1_
            have BK785 := n2_
            have BK786 := n3_
            have BK802 := n4_
            have HB := n5_
            have BK817 := n6_
            have GW817 := n7_
            have GE817 := n8_
            have NB785_817 := n9_
            have NB817_785 := n10_
            have NB786_817 := n11_
            have NB817_786 := n12_
            have NB802_817 := n13_
            have NB817_802 := n14_
            clear n0_ n1_ n2_ n3_ n4_ n5_ n6_ n7_ n8_ n9_ n10_ n11_ n12_ n13_ n14_
            clear hb hbox hg
            refine hK.out _ _ ⟨(blk_cell BK785.out 0).trans rfl, (blk_cell BK785.out 1).trans rfl, (blk_cell BK785.out 2).trans rfl, (blk_cell BK785.out 3).trans rfl, (blk_cell BK786.out 0).trans rfl, (blk_cell BK786.out 1).trans rfl, (blk_cell BK786.out 2).trans rfl⟩ (fun hHeld => ?_)
            clear hK K
            refine norm_ (a' := ?_) ?_ ?_
            rotate_left
            · show Act.put _ (some 11) _ = _
              simp only [Act.put, List.setIfInBounds_toArray, List.set_cons_zero, List.set_cons_succ, i64_w, i32_w]
              rfl
            exact norm_ (by simp only [putAll, Act.put, List.setIfInBounds_toArray, List.set_cons_zero, List.set_cons_succ]) (hCont (gb817) _ ⟨hHeld, (by (with_reducible repeat (first | apply Kd.R_alloc | apply Kd.R_drewN | apply Kd.R_drew)); exact Kd.R_mono HO797.out (fun _ hk => hk.2)), (by (with_reducible repeat (first | apply Kd.R_alloc | apply Kd.R_drewN | apply Kd.R_drew)); exact Kd.R_mono HO805.out (fun _ hk => hk.2)), (by (with_reducible repeat (first | refine blk_drewN ?_ _ | refine blk_drew ?_ | refine blk_alloc ?_ _)); exact BK785.out), (by (with_reducible repeat (first | refine blk_drewN ?_ _ | refine blk_drew ?_ | refine blk_alloc ?_ _)); exact BK786.out), (by (with_reducible repeat (first | refine blk_drewN ?_ _ | refine blk_drew ?_ | refine blk_alloc ?_ _)); exact BK802.out), (by (with_reducible repeat (first | refine blk_drewN ?_ _ | refine blk_drew ?_ | refine blk_alloc ?_ _)); exact BK817.out), GW817.out, GE817.out, NB785_817.out, NB817_785.out, NB786_817.out, NB817_786.out, NB802_817.out, NB817_802.out, (by repeat (first | (with_reducible first | exact HB.out | apply below_alloc | apply pw_below_drewN | apply below_drew1 | refine below_set ?_ GE785.out | refine below_set ?_ GE786.out | refine below_set ?_ GE802.out | refine below_set ?_ GE817.out) | exact HB.out))⟩)
          · skip
            refine box_step ?hg (N := 11) ?hd (cs := #[.int .i64 0, .int .i64 0, .int .i64 0]) (t := 73) ?hr ?_; (case hd => rfl); (case hg => rfl); (case hr => first | (go_simp; done) | (go_simp; rfl))
            intro gb817 hg w35 hbox hb
            have n0_ := Aside0.mk (Kd.R_below HO797.out hb)
            have n1_ := Aside0.mk (Kd.R_below HO805.out hb)
            have n2_ := Aside0.mk (blk_below BK785.out hb)
            have n3_ := Aside0.mk (blk_below BK786.out hb)
            have n4_ := Aside0.mk (blk_below BK802.out hb)
            have n5_ := Aside0.mk (below_step HB.out hb)
            have n6_ := Aside0.mk (hbox)
            have n7_ := Aside0.mk ((by rw [hg]; exact (below_size HB.out) : w.heap.size ≤ gb817))
            have n8_ := Aside0.mk ((by rw [hg]; exact (below_size HB.out) : w.heap.size ≤ gb817))
            have n9_ := Aside0.mk ((by rw [hg]; exact Nat.ne_of_lt (blk_lt BK785.out) : gb785 ≠ gb817))
            have n10_ := Aside0.mk ((by rw [hg]; exact Nat.ne_of_gt (blk_lt BK785.out) : gb817 ≠ gb785))
            have n11_ := Aside0.mk ((by rw [hg]; exact Nat.ne_of_lt (blk_lt BK786.out) : gb786 ≠ gb817))
            have n12_ := Aside0.mk ((by rw [hg]; exact Nat.ne_of_gt (blk_lt BK786.out) : gb817 ≠ gb786))
            have n13_ := Aside0.mk ((by rw [hg]; exact Nat.ne_of_lt (blk_lt BK802.out) : gb802 ≠ gb817))
            have n14_ := Aside0.mk ((by rw [hg]; exact Nat.ne_of_gt (blk_lt BK802.out) : gb817 ≠ gb802))
            clear HO797
            clear HO805
            clear BK785
            clear BK786
            clear BK802
            clear HB
            have HO797 := n0_
            have HO805 := n1_
            have BK785 := n2_
            have BK786 := n3_
            have BK802 := n4_
            have HB := n5_
            have BK817 := n6_
            have GW817 := n7_
            have GE817 := n8_
            have NB785_817 := n9_
            have NB817_785 := n10_
            have NB786_817 := n11_
            have NB817_786 := n12_
            have NB802_817 := n13_
            have NB817_802 := n14_
            clear n0_ n1_ n2_ n3_ n4_ n5_ n6_ n7_ n8_ n9_ n10_ n11_ n12_ n13_ n14_
            clear hb hbox hg
            refine hK.out _ _ ⟨(blk_cell BK785.out 0).trans rfl, (blk_cell BK785.out 1).trans rfl, (blk_cell BK785.out 2).trans rfl, (blk_cell BK785.out 3).trans rfl, (blk_cell BK786.out 0).trans rfl, (blk_cell BK786.out 1).trans rfl, (blk_cell BK786.out 2).trans rfl⟩ (fun hHeld => ?_)
            clear hK K
            refine norm_ (a' := ?_) ?_ ?_
            rotate_left
            · show Act.put _ (some 11) _ = _
              simp only [Act.put, List.setIfInBounds_toArray, List.set_cons_zero, List.set_cons_succ, i64_w, i32_w]
              rfl
            refine one_ (i := 5) (N := some 36) #[true, true, true, true, true, true, false, false, false, true, false, false] rfl rfl (one_of HT_.out (by kernel_rfl)) (by decide) (fun K hK => ?_)
            refine goes_ Try.func77 (by kernel_rfl) rfl #[.agg #[.int .i64 t806, .int .i64 t807, .int .i8 t808, .int .i8 t809], .agg #[.int .i64 t810, .int .i64 t811, .int .i64 t812], .slice Ao31 t803.length co31] (by rfl) rfl rfl (by (try simp only [List.map_toArray, List.map_cons, List.map_nil]); first | done | rfl | (simp only [List.length_drop, List.length_take]; rfl)) ?_
            with_reducible refine (impl_DoActs.calls k t806 t807 t808 t809 t810 t811 t812 _ _ t803 t813 t814 t815 t816 _ ?side1 ?side2 A15.out).mono ?_
            (case side1 => repeat (first | exact (Kd.R_reads' HO805.out).2.2 | (with_reducible refine Kd.C_alloc ?_ _) | (with_reducible refine Kd.C_drewN ?_ _) | (with_reducible refine Kd.C_drew ?_)))
            (case side2 => exact (Kd.R_reads' HO805.out).2.1)
            rintro e w36 ⟨rfl, hb⟩
            refine ⟨_, rfl, ?_⟩
            have n0_ := Aside0.mk (Kd.R_below HO797.out hb)
            have n1_ := Aside0.mk (Kd.R_below HO805.out hb)
            have n2_ := Aside0.mk (blk_below BK785.out hb)
            have n3_ := Aside0.mk (blk_below BK786.out hb)
            have n4_ := Aside0.mk (blk_below BK802.out hb)
            have n5_ := Aside0.mk (blk_below BK817.out hb)
            have n6_ := Aside0.mk (below_step HB.out hb)
            clear HO797
            clear HO805
            clear BK785
            clear BK786
            clear BK802
            clear BK817
            clear HB
            have HO797 := n0_
            have HO805 := n1_
            have BK785 := n2_
            have BK786 := n3_
            have BK802 := n4_
            have BK817 := n5_
            have HB := n6_
            clear n0_ n1_ n2_ n3_ n4_ n5_ n6_
            (try clear hb)
            (try clear hb2)
            (try clear hk)
            (try clear hi)
            refine hK.out _ _ ⟨(blk_cell BK785.out 0).trans rfl, (blk_cell BK785.out 1).trans rfl, (blk_cell BK785.out 2).trans rfl, (blk_cell BK785.out 3).trans rfl, (blk_cell BK786.out 0).trans rfl, (blk_cell BK786.out 1).trans rfl, (blk_cell BK786.out 2).trans rfl⟩ (fun hHeld => ?_)
            clear hK K
            refine norm_ (a' := ?_) ?_ ?_
            rotate_left
            · show Act.put _ (some 36) _ = _
              simp only [Act.put, List.setIfInBounds_toArray, List.set_cons_zero, List.set_cons_succ, i64_w, i32_w]
              rfl
            refine pure_ (i := 6) (N := some 30) (v := ?_) (a' := ?_) #[true, true, true, true, true, true, true, false, false, true, false, false] rfl rfl (any_of HT_.out (by kernel_rfl)) (fun _ _ _ h => h) (Or.inl ⟨by rfl, ?_⟩) ?_ ?_
            rotate_left
            · intro w'
              go_simp
              with_reducible rfl
            rotate_left
            · simp only [Act.put, List.setIfInBounds_toArray, List.set_cons_zero, List.set_cons_succ, i64_w, i32_w]
              rfl
            refine pure_ (i := 7) (N := some 37) (v := ?_) (a' := ?_) #[true, true, true, true, true, true, true, true, false, true, false, false] rfl rfl (any_of HT_.out (by kernel_rfl)) (fun _ _ _ h => h) (Or.inl ⟨by rfl, ?_⟩) ?_ ?_
            rotate_left
            · intro w'
              go_simp
              with_reducible rfl
            rotate_left
            · simp only [Act.put, List.setIfInBounds_toArray, List.set_cons_zero, List.set_cons_succ, i64_w, i32_w]
              rfl
            refine pure_ (i := 8) (N := some 38) (v := ?_) (a' := ?_) #[true, true, true, true, true, true, true, true, true, true, false, false] rfl rfl (any_of HT_.out (by kernel_rfl)) (fun _ _ _ h => h) (Or.inl ⟨by rfl, ?_⟩) ?_ ?_
            rotate_left
            · intro w'
              go_simp
              with_reducible rfl
            rotate_left
            · simp only [Act.put, List.setIfInBounds_toArray, List.set_cons_zero, List.set_cons_succ, i64_w, i32_w]
              rfl
            exact norm_ (by simp only [putAll, Act.put, List.setIfInBounds_toArray, List.set_cons_zero, List.set_cons_succ]) (hCont (gb817) _ ⟨hHeld, (by (with_reducible repeat (first | apply Kd.R_alloc | apply Kd.R_drewN | apply Kd.R_drew)); exact Kd.R_mono HO797.out (fun _ hk => hk.2)), (by (with_reducible repeat (first | apply Kd.R_alloc | apply Kd.R_drewN | apply Kd.R_drew)); exact Kd.R_mono HO805.out (fun _ hk => hk.2)), (by (with_reducible repeat (first | refine blk_drewN ?_ _ | refine blk_drew ?_ | refine blk_alloc ?_ _)); exact BK785.out), (by (with_reducible repeat (first | refine blk_drewN ?_ _ | refine blk_drew ?_ | refine blk_alloc ?_ _)); exact BK786.out), (by (with_reducible repeat (first | refine blk_drewN ?_ _ | refine blk_drew ?_ | refine blk_alloc ?_ _)); exact BK802.out), (by (with_reducible repeat (first | refine blk_drewN ?_ _ | refine blk_drew ?_ | refine blk_alloc ?_ _)); exact BK817.out), GW817.out, GE817.out, NB785_817.out, NB817_785.out, NB786_817.out, NB817_786.out, NB802_817.out, NB817_802.out, (by repeat (first | (with_reducible first | exact HB.out | apply below_alloc | apply pw_below_drewN | apply below_drew1 | refine below_set ?_ GE785.out | refine below_set ?_ GE786.out | refine below_set ?_ GE802.out | refine below_set ?_ GE817.out) | exact HB.out))⟩)
        · skip
          refine box_step ?hg (N := 11) ?hd (cs := #[.int .i64 0, .int .i64 0, .int .i64 0]) (t := 73) ?hr ?_; (case hd => rfl); (case hg => rfl); (case hr => first | (go_simp; done) | (go_simp; rfl))
          intro gb817 hg w34 hbox hb
          have n0_ := Aside0.mk (Kd.R_below HO797.out hb)
          have n1_ := Aside0.mk (Kd.R_below HO805.out hb)
          have n2_ := Aside0.mk (blk_below BK785.out hb)
          have n3_ := Aside0.mk (blk_below BK786.out hb)
          have n4_ := Aside0.mk (blk_below BK802.out hb)
          have n5_ := Aside0.mk (below_step HB.out hb)
          have n6_ := Aside0.mk (hbox)
          have n7_ := Aside0.mk ((by rw [hg]; exact (below_size HB.out) : w.heap.size ≤ gb817))
          have n8_ := Aside0.mk ((by rw [hg]; exact (below_size HB.out) : w.heap.size ≤ gb817))
          have n9_ := Aside0.mk ((by rw [hg]; exact Nat.ne_of_lt (blk_lt BK785.out) : gb785 ≠ gb817))
          have n10_ := Aside0.mk ((by rw [hg]; exact Nat.ne_of_gt (blk_lt BK785.out) : gb817 ≠ gb785))
          have n11_ := Aside0.mk ((by rw [hg]; exact Nat.ne_of_lt (blk_lt BK786.out) : gb786 ≠ gb817))
          have n12_ := Aside0.mk ((by rw [hg]; exact Nat.ne_of_gt (blk_lt BK786.out) : gb817 ≠ gb786))
          have n13_ := Aside0.mk ((by rw [hg]; exact Nat.ne_of_lt (blk_lt BK802.out) : gb802 ≠ gb817))
          have n14_ := Aside0.mk ((by rw [hg]; exact Nat.ne_of_gt (blk_lt BK802.out) : gb817 ≠ gb802))
          clear HO797
          clear HO805
          clear BK785
          clear BK786
          clear BK802
          clear HB
          have HO797 := n0_
          have HO805 := n1_
          have BK785 := n2_
          have BK786 := n3_
          have BK802 := n4_
          have HB := n5_
          have BK817 := n6_
          have GW817 := n7_
          have GE817 := n8_
          have NB785_817 := n9_
          have NB817_785 := n10_
          have NB786_817 := n11_
          have NB817_786 := n12_
          have NB802_817 := n13_
          have NB817_802 := n14_
          clear n0_ n1_ n2_ n3_ n4_ n5_ n6_ n7_ n8_ n9_ n10_ n11_ n12_ n13_ n14_
          clear hb hbox hg
          refine hK.out _ _ ⟨(blk_cell BK785.out 0).trans rfl, (blk_cell BK785.out 1).trans rfl, (blk_cell BK785.out 2).trans rfl, (blk_cell BK785.out 3).trans rfl, (blk_cell BK786.out 0).trans rfl, (blk_cell BK786.out 1).trans rfl, (blk_cell BK786.out 2).trans rfl⟩ (fun hHeld => ?_)
          clear hK K
          refine norm_ (a' := ?_) ?_ ?_
          rotate_left
          · show Act.put _ (some 11) _ = _
            simp only [Act.put, List.setIfInBounds_toArray, List.set_cons_zero, List.set_cons_succ, i64_w, i32_w]
            rfl
          refine one_ (i := 3) (N := some 34) #[true, true, true, true, true, false, false, false, false, true, false, false] rfl rfl (one_of HT_.out (by kernel_rfl)) (by decide) (fun K hK => ?_)
          refine goes_ Try.func72 (by kernel_rfl) rfl #[.agg #[.int .i64 a1_0, .int .i64 a1_1, .int .i64 a1_2]] (by rfl) rfl rfl (by (try simp only [List.map_toArray, List.map_cons, List.map_nil]); first | done | rfl | (simp only [List.length_drop, List.length_take]; rfl)) ?_
          with_reducible refine (laws_toBath.calls a1_0 a1_1 a1_2 t810 t811 t812 _ A14.out).mono ?_
          rintro e w35 ⟨rfl, hb⟩
          refine ⟨_, rfl, ?_⟩
          have n0_ := Aside0.mk (Kd.R_below HO797.out hb)
          have n1_ := Aside0.mk (Kd.R_below HO805.out hb)
          have n2_ := Aside0.mk (blk_below BK785.out hb)
          have n3_ := Aside0.mk (blk_below BK786.out hb)
          have n4_ := Aside0.mk (blk_below BK802.out hb)
          have n5_ := Aside0.mk (blk_below BK817.out hb)
          have n6_ := Aside0.mk (below_step HB.out hb)
          clear HO797
          clear HO805
          clear BK785
          clear BK786
          clear BK802
          clear BK817
          clear HB
          have HO797 := n0_
          have HO805 := n1_
          have BK785 := n2_
          have BK786 := n3_
          have BK802 := n4_
          have BK817 := n5_
          have HB := n6_
          clear n0_ n1_ n2_ n3_ n4_ n5_ n6_
          (try clear hb)
          (try clear hb2)
          (try clear hk)
          (try clear hi)
          refine hK.out _ _ ⟨(blk_cell BK785.out 0).trans rfl, (blk_cell BK785.out 1).trans rfl, (blk_cell BK785.out 2).trans rfl, (blk_cell BK785.out 3).trans rfl, (blk_cell BK786.out 0).trans rfl, (blk_cell BK786.out 1).trans rfl, (blk_cell BK786.out 2).trans rfl⟩ (fun hHeld => ?_)
          clear hK K
          refine norm_ (a' := ?_) ?_ ?_
          rotate_left
          · show Act.put _ (some 34) _ = _
            simp only [Act.put, List.setIfInBounds_toArray, List.set_cons_zero, List.set_cons_succ, i64_w, i32_w]
            rfl
          refine one_ (i := 5) (N := some 36) #[true, true, true, true, true, true, false, false, false, true, false, false] rfl rfl (one_of HT_.out (by kernel_rfl)) (by decide) (fun K hK => ?_)
          refine goes_ Try.func77 (by kernel_rfl) rfl #[.agg #[.int .i64 t806, .int .i64 t807, .int .i8 t808, .int .i8 t809], .agg #[.int .i64 t810, .int .i64 t811, .int .i64 t812], .slice Ao31 t803.length co31] (by rfl) rfl rfl (by (try simp only [List.map_toArray, List.map_cons, List.map_nil]); first | done | rfl | (simp only [List.length_drop, List.length_take]; rfl)) ?_
          with_reducible refine (impl_DoActs.calls k t806 t807 t808 t809 t810 t811 t812 _ _ t803 t813 t814 t815 t816 _ ?side1 ?side2 A15.out).mono ?_
          (case side1 => repeat (first | exact (Kd.R_reads' HO805.out).2.2 | (with_reducible refine Kd.C_alloc ?_ _) | (with_reducible refine Kd.C_drewN ?_ _) | (with_reducible refine Kd.C_drew ?_)))
          (case side2 => exact (Kd.R_reads' HO805.out).2.1)
          rintro e w36 ⟨rfl, hb⟩
          refine ⟨_, rfl, ?_⟩
          have n0_ := Aside0.mk (Kd.R_below HO797.out hb)
          have n1_ := Aside0.mk (Kd.R_below HO805.out hb)
          have n2_ := Aside0.mk (blk_below BK785.out hb)
          have n3_ := Aside0.mk (blk_below BK786.out hb)
          have n4_ := Aside0.mk (blk_below BK802.out hb)
          have n5_ := Aside0.mk (blk_below BK817.out hb)
          have n6_ := Aside0.mk (below_step HB.out hb)
          clear HO797
          clear HO805
          clear BK785
          clear BK786
          clear BK802
          clear BK817
          clear HB
          have HO797 := n0_
          have HO805 := n1_
          have BK785 := n2_
          have BK786 := n3_
          have BK802 := n4_
          have BK817 := n5_
          have HB := n6_
          clear n0_ n1_ n2_ n3_ n4_ n5_ n6_
          (try clear hb)
          (try clear hb2)
          (try clear hk)
          (try clear hi)
          refine hK.out _ _ ⟨(blk_cell BK785.out 0).trans rfl, (blk_cell BK785.out 1).trans rfl, (blk_cell BK785.out 2).trans rfl, (blk_cell BK785.out 3).trans rfl, (blk_cell BK786.out 0).trans rfl, (blk_cell BK786.out 1).trans rfl, (blk_cell BK786.out 2).trans rfl⟩ (fun hHeld => ?_)
          clear hK K
          refine norm_ (a' := ?_) ?_ ?_
          rotate_left
          · show Act.put _ (some 36) _ = _
            simp only [Act.put, List.setIfInBounds_toArray, List.set_cons_zero, List.set_cons_succ, i64_w, i32_w]
            rfl
          refine pure_ (i := 6) (N := some 30) (v := ?_) (a' := ?_) #[true, true, true, true, true, true, true, false, false, true, false, false] rfl rfl (any_of HT_.out (by kernel_rfl)) (fun _ _ _ h => h) (Or.inl ⟨by rfl, ?_⟩) ?_ ?_
          rotate_left
          · intro w'
            go_simp
            with_reducible rfl
          rotate_left
          · simp only [Act.put, List.setIfInBounds_toArray, List.set_cons_zero, List.set_cons_succ, i64_w, i32_w]
            rfl
          refine pure_ (i := 7) (N := some 37) (v := ?_) (a' := ?_) #[true, true, true, true, true, true, true, true, false, true, false, false] rfl rfl (any_of HT_.out (by kernel_rfl)) (fun _ _ _ h => h) (Or.inl ⟨by rfl, ?_⟩) ?_ ?_
          rotate_left
          · intro w'
            go_simp
            with_reducible rfl
          rotate_left
          · simp only [Act.put, List.setIfInBounds_toArray, List.set_cons_zero, List.set_cons_succ, i64_w, i32_w]
            rfl
          refine pure_ (i := 8) (N := some 38) (v := ?_) (a' := ?_) #[true, true, true, true, true, true, true, true, true, true, false, false] rfl rfl (any_of HT_.out (by kernel_rfl)) (fun _ _ _ h => h) (Or.inl ⟨by rfl, ?_⟩) ?_ ?_
          rotate_left
          · intro w'
            go_simp
            with_reducible rfl
          rotate_left
          · simp only [Act.put, List.setIfInBounds_toArray, List.set_cons_zero, List.set_cons_succ, i64_w, i32_w]
            rfl
          exact norm_ (by simp only [putAll, Act.put, List.setIfInBounds_toArray, List.set_cons_zero, List.set_cons_succ]) (hCont (gb817) _ ⟨hHeld, (by (with_reducible repeat (first | apply Kd.R_alloc | apply Kd.R_drewN | apply Kd.R_drew)); exact Kd.R_mono HO797.out (fun _ hk => hk.2)), (by (with_reducible repeat (first | apply Kd.R_alloc | apply Kd.R_drewN | apply Kd.R_drew)); exact Kd.R_mono HO805.out (fun _ hk => hk.2)), (by (with_reducible repeat (first | refine blk_drewN ?_ _ | refine blk_drew ?_ | refine blk_alloc ?_ _)); exact BK785.out), (by (with_reducible repeat (first | refine blk_drewN ?_ _ | refine blk_drew ?_ | refine blk_alloc ?_ _)); exact BK786.out), (by (with_reducible repeat (first | refine blk_drewN ?_ _ | refine blk_drew ?_ | refine blk_alloc ?_ _)); exact BK802.out), (by (with_reducible repeat (first | refine blk_drewN ?_ _ | refine blk_drew ?_ | refine blk_alloc ?_ _)); exact BK817.out), GW817.out, GE817.out, NB785_817.out, NB817_785.out, NB786_817.out, NB817_786.out, NB802_817.out, NB817_802.out, (by repeat (first | (with_reducible first | exact HB.out | apply below_alloc | apply pw_below_drewN | apply below_drew1 | refine below_set ?_ GE785.out | refine below_set ?_ GE786.out | refine below_set ?_ GE802.out | refine below_set ?_ GE817.out) | exact HB.out))⟩)
      · skip
        refine box_step ?hg (N := 11) ?hd (cs := #[.int .i64 0, .int .i64 0, .int .i64 0]) (t := 73) ?hr ?_; (case hd => rfl); (case hg => rfl); (case hr => first | (go_simp; done) | (go_simp; rfl))
        intro gb817 hg w33 hbox hb
        have n0_ := Aside0.mk (Kd.R_below HO797.out hb)
        have n1_ := Aside0.mk (Kd.R_below HO805.out hb)
        have n2_ := Aside0.mk (blk_below BK785.out hb)
        have n3_ := Aside0.mk (blk_below BK786.out hb)
        have n4_ := Aside0.mk (blk_below BK802.out hb)
        have n5_ := Aside0.mk (below_step HB.out hb)
        have n6_ := Aside0.mk (hbox)
        have n7_ := Aside0.mk ((by rw [hg]; exact (below_size HB.out) : w.heap.size ≤ gb817))
        have n8_ := Aside0.mk ((by rw [hg]; exact (below_size HB.out) : w.heap.size ≤ gb817))
        have n9_ := Aside0.mk ((by rw [hg]; exact Nat.ne_of_lt (blk_lt BK785.out) : gb785 ≠ gb817))
        have n10_ := Aside0.mk ((by rw [hg]; exact Nat.ne_of_gt (blk_lt BK785.out) : gb817 ≠ gb785))
        have n11_ := Aside0.mk ((by rw [hg]; exact Nat.ne_of_lt (blk_lt BK786.out) : gb786 ≠ gb817))
        have n12_ := Aside0.mk ((by rw [hg]; exact Nat.ne_of_gt (blk_lt BK786.out) : gb817 ≠ gb786))
        have n13_ := Aside0.mk ((by rw [hg]; exact Nat.ne_of_lt (blk_lt BK802.out) : gb802 ≠ gb817))
        have n14_ := Aside0.mk ((by rw [hg]; exact Nat.ne_of_gt (blk_lt BK802.out) : gb817 ≠ gb802))
        clear HO797
        clear HO805
        clear BK785
        clear BK786
        clear BK802
        clear HB
        have HO797 := n0_
        have HO805 := n1_
        have BK785 := n2_
        have BK786 := n3_
        have BK802 := n4_
        have HB := n5_
        have BK817 := n6_
        have GW817 := n7_
        have GE817 := n8_
        have NB785_817 := n9_
        have NB817_785 := n10_
        have NB786_817 := n11_
        have NB817_786 := n12_
        have NB802_817 := n13_
        have NB817_802 := n14_
        clear n0_ n1_ n2_ n3_ n4_ n5_ n6_ n7_ n8_ n9_ n10_ n11_ n12_ n13_ n14_
        clear hb hbox hg
        refine hK.out _ _ ⟨(blk_cell BK785.out 0).trans rfl, (blk_cell BK785.out 1).trans rfl, (blk_cell BK785.out 2).trans rfl, (blk_cell BK785.out 3).trans rfl, (blk_cell BK786.out 0).trans rfl, (blk_cell BK786.out 1).trans rfl, (blk_cell BK786.out 2).trans rfl⟩ (fun hHeld => ?_)
        clear hK K
        refine norm_ (a' := ?_) ?_ ?_
        rotate_left
        · show Act.put _ (some 11) _ = _
          simp only [Act.put, List.setIfInBounds_toArray, List.set_cons_zero, List.set_cons_succ, i64_w, i32_w]
          rfl
        refine one_ (i := 1) (N := some 32) #[true, true, true, false, true, false, false, false, false, true, false, false] rfl rfl (one_of HT_.out (by kernel_rfl)) (by decide) (fun K hK => ?_)
        refine goes_ Try.func71 (by kernel_rfl) rfl #[.agg #[.int .i64 a0_0, .int .i64 a0_1, .int .i8 a0_2, .int .i8 a0_3]] (by rfl) rfl rfl (by (try simp only [List.map_toArray, List.map_cons, List.map_nil]); first | done | rfl | (simp only [List.length_drop, List.length_take]; rfl)) ?_
        with_reducible refine (laws_toDeveloper.calls a0_0 a0_1 a0_2 a0_3 t806 t807 t808 t809 _ A13.out).mono ?_
        rintro e w34 ⟨rfl, hb⟩
        refine ⟨_, rfl, ?_⟩
        have n0_ := Aside0.mk (Kd.R_below HO797.out hb)
        have n1_ := Aside0.mk (Kd.R_below HO805.out hb)
        have n2_ := Aside0.mk (blk_below BK785.out hb)
        have n3_ := Aside0.mk (blk_below BK786.out hb)
        have n4_ := Aside0.mk (blk_below BK802.out hb)
        have n5_ := Aside0.mk (blk_below BK817.out hb)
        have n6_ := Aside0.mk (below_step HB.out hb)
        clear HO797
        clear HO805
        clear BK785
        clear BK786
        clear BK802
        clear BK817
        clear HB
        have HO797 := n0_
        have HO805 := n1_
        have BK785 := n2_
        have BK786 := n3_
        have BK802 := n4_
        have BK817 := n5_
        have HB := n6_
        clear n0_ n1_ n2_ n3_ n4_ n5_ n6_
        (try clear hb)
        (try clear hb2)
        (try clear hk)
        (try clear hi)
        refine hK.out _ _ ⟨(blk_cell BK785.out 0).trans rfl, (blk_cell BK785.out 1).trans rfl, (blk_cell BK785.out 2).trans rfl, (blk_cell BK785.out 3).trans rfl, (blk_cell BK786.out 0).trans rfl, (blk_cell BK786.out 1).trans rfl, (blk_cell BK786.out 2).trans rfl⟩ (fun hHeld => ?_)
        clear hK K
        refine norm_ (a' := ?_) ?_ ?_
        rotate_left
        · show Act.put _ (some 32) _ = _
          simp only [Act.put, List.setIfInBounds_toArray, List.set_cons_zero, List.set_cons_succ, i64_w, i32_w]
          rfl
        refine one_ (i := 3) (N := some 34) #[true, true, true, true, true, false, false, false, false, true, false, false] rfl rfl (one_of HT_.out (by kernel_rfl)) (by decide) (fun K hK => ?_)
        refine goes_ Try.func72 (by kernel_rfl) rfl #[.agg #[.int .i64 a1_0, .int .i64 a1_1, .int .i64 a1_2]] (by rfl) rfl rfl (by (try simp only [List.map_toArray, List.map_cons, List.map_nil]); first | done | rfl | (simp only [List.length_drop, List.length_take]; rfl)) ?_
        with_reducible refine (laws_toBath.calls a1_0 a1_1 a1_2 t810 t811 t812 _ A14.out).mono ?_
        rintro e w35 ⟨rfl, hb⟩
        refine ⟨_, rfl, ?_⟩
        have n0_ := Aside0.mk (Kd.R_below HO797.out hb)
        have n1_ := Aside0.mk (Kd.R_below HO805.out hb)
        have n2_ := Aside0.mk (blk_below BK785.out hb)
        have n3_ := Aside0.mk (blk_below BK786.out hb)
        have n4_ := Aside0.mk (blk_below BK802.out hb)
        have n5_ := Aside0.mk (blk_below BK817.out hb)
        have n6_ := Aside0.mk (below_step HB.out hb)
        clear HO797
        clear HO805
        clear BK785
        clear BK786
        clear BK802
        clear BK817
        clear HB
        have HO797 := n0_
        have HO805 := n1_
        have BK785 := n2_
        have BK786 := n3_
        have BK802 := n4_
        have BK817 := n5_
        have HB := n6_
        clear n0_ n1_ n2_ n3_ n4_ n5_ n6_
        (try clear hb)
        (try clear hb2)
        (try clear hk)
        (try clear hi)
        refine hK.out _ _ ⟨(blk_cell BK785.out 0).trans rfl, (blk_cell BK785.out 1).trans rfl, (blk_cell BK785.out 2).trans rfl, (blk_cell BK785.out 3).trans rfl, (blk_cell BK786.out 0).trans rfl, (blk_cell BK786.out 1).trans rfl, (blk_cell BK786.out 2).trans rfl⟩ (fun hHeld => ?_)
        clear hK K
        refine norm_ (a' := ?_) ?_ ?_
        rotate_left
        · show Act.put _ (some 34) _ = _
          simp only [Act.put, List.setIfInBounds_toArray, List.set_cons_zero, List.set_cons_succ, i64_w, i32_w]
          rfl
        refine one_ (i := 5) (N := some 36) #[true, true, true, true, true, true, false, false, false, true, false, false] rfl rfl (one_of HT_.out (by kernel_rfl)) (by decide) (fun K hK => ?_)
        refine goes_ Try.func77 (by kernel_rfl) rfl #[.agg #[.int .i64 t806, .int .i64 t807, .int .i8 t808, .int .i8 t809], .agg #[.int .i64 t810, .int .i64 t811, .int .i64 t812], .slice Ao31 t803.length co31] (by rfl) rfl rfl (by (try simp only [List.map_toArray, List.map_cons, List.map_nil]); first | done | rfl | (simp only [List.length_drop, List.length_take]; rfl)) ?_
        with_reducible refine (impl_DoActs.calls k t806 t807 t808 t809 t810 t811 t812 _ _ t803 t813 t814 t815 t816 _ ?side1 ?side2 A15.out).mono ?_
        (case side1 => repeat (first | exact (Kd.R_reads' HO805.out).2.2 | (with_reducible refine Kd.C_alloc ?_ _) | (with_reducible refine Kd.C_drewN ?_ _) | (with_reducible refine Kd.C_drew ?_)))
        (case side2 => exact (Kd.R_reads' HO805.out).2.1)
        rintro e w36 ⟨rfl, hb⟩
        refine ⟨_, rfl, ?_⟩
        have n0_ := Aside0.mk (Kd.R_below HO797.out hb)
        have n1_ := Aside0.mk (Kd.R_below HO805.out hb)
        have n2_ := Aside0.mk (blk_below BK785.out hb)
        have n3_ := Aside0.mk (blk_below BK786.out hb)
        have n4_ := Aside0.mk (blk_below BK802.out hb)
        have n5_ := Aside0.mk (blk_below BK817.out hb)
        have n6_ := Aside0.mk (below_step HB.out hb)
        clear HO797
        clear HO805
        clear BK785
        clear BK786
        clear BK802
        clear BK817
        clear HB
        have HO797 := n0_
        have HO805 := n1_
        have BK785 := n2_
        have BK786 := n3_
        have BK802 := n4_
        have BK817 := n5_
        have HB := n6_
        clear n0_ n1_ n2_ n3_ n4_ n5_ n6_
        (try clear hb)
        (try clear hb2)
        (try clear hk)
        (try clear hi)
        refine hK.out _ _ ⟨(blk_cell BK785.out 0).trans rfl, (blk_cell BK785.out 1).trans rfl, (blk_cell BK785.out 2).trans rfl, (blk_cell BK785.out 3).trans rfl, (blk_cell BK786.out 0).trans rfl, (blk_cell BK786.out 1).trans rfl, (blk_cell BK786.out 2).trans rfl⟩ (fun hHeld => ?_)
        clear hK K
        refine norm_ (a' := ?_) ?_ ?_
        rotate_left
        · show Act.put _ (some 36) _ = _
          simp only [Act.put, List.setIfInBounds_toArray, List.set_cons_zero, List.set_cons_succ, i64_w, i32_w]
          rfl
        refine pure_ (i := 6) (N := some 30) (v := ?_) (a' := ?_) #[true, true, true, true, true, true, true, false, false, true, false, false] rfl rfl (any_of HT_.out (by kernel_rfl)) (fun _ _ _ h => h) (Or.inl ⟨by rfl, ?_⟩) ?_ ?_
        rotate_left
        · intro w'
          go_simp
          with_reducible rfl
        rotate_left
        · simp only [Act.put, List.setIfInBounds_toArray, List.set_cons_zero, List.set_cons_succ, i64_w, i32_w]
          rfl
        refine pure_ (i := 7) (N := some 37) (v := ?_) (a' := ?_) #[true, true, true, true, true, true, true, true, false, true, false, false] rfl rfl (any_of HT_.out (by kernel_rfl)) (fun _ _ _ h => h) (Or.inl ⟨by rfl, ?_⟩) ?_ ?_
        rotate_left
        · intro w'
          go_simp
          with_reducible rfl
        rotate_left
        · simp only [Act.put, List.setIfInBounds_toArray, List.set_cons_zero, List.set_cons_succ, i64_w, i32_w]
          rfl
        refine pure_ (i := 8) (N := some 38) (v := ?_) (a' := ?_) #[true, true, true, true, true, true, true, true, true, true, false, false] rfl rfl (any_of HT_.out (by kernel_rfl)) (fun _ _ _ h => h) (Or.inl ⟨by rfl, ?_⟩) ?_ ?_
        rotate_left
        · intro w'
          go_simp
          with_reducible rfl
        rotate_left
        · simp only [Act.put, List.setIfInBounds_toArray, List.set_cons_zero, List.set_cons_succ, i64_w, i32_w]
          rfl
        exact norm_ (by simp only [putAll, Act.put, List.setIfInBounds_toArray, List.set_cons_zero, List.set_cons_succ]) (hCont (gb817) _ ⟨hHeld, (by (with_reducible repeat (first | apply Kd.R_alloc | apply Kd.R_drewN | apply Kd.R_drew)); exact Kd.R_mono HO797.out (fun _ hk => hk.2)), (by (with_reducible repeat (first | apply Kd.R_alloc | apply Kd.R_drewN | apply Kd.R_drew)); exact Kd.R_mono HO805.out (fun _ hk => hk.2)), (by (with_reducible repeat (first | refine blk_drewN ?_ _ | refine blk_drew ?_ | refine blk_alloc ?_ _)); exact BK785.out), (by (with_reducible repeat (first | refine blk_drewN ?_ _ | refine blk_drew ?_ | refine blk_alloc ?_ _)); exact BK786.out), (by (with_reducible repeat (first | refine blk_drewN ?_ _ | refine blk_drew ?_ | refine blk_alloc ?_ _)); exact BK802.out), (by (with_reducible repeat (first | refine blk_drewN ?_ _ | refine blk_drew ?_ | refine blk_alloc ?_ _)); exact BK817.out), GW817.out, GE817.out, NB785_817.out, NB817_785.out, NB786_817.out, NB817_786.out, NB802_817.out, NB817_802.out, (by repeat (first | (with_reducible first | exact HB.out | apply below_alloc | apply pw_below_drewN | apply below_drew1 | refine below_set ?_ GE785.out | refine below_set ?_ GE786.out | refine below_set ?_ GE802.out | refine below_set ?_ GE817.out) | exact HB.out))⟩)
    rintro gb817 w37 ⟨hS_, h0_, h1_, h2_, h3_, h4_, h5_, h6_, h7_, h8_, h9_, h10_, h11_, h12_, h13_, h14_⟩
    have n0_ : Aside0 (Kd.R k161 161 w37 w.heap.size (fun k_ => some k_ ≠ (.slice Ao31 t803.length co31 : Value).ownBlock) v796 t795) := ⟨h0_⟩
    have n1_ : Aside0 (Kd.R k161 161 w37 w.heap.size (fun k_ => some k_ ≠ (v796 : Value).ownBlock) (.slice Ao31 t803.length co31) t803) := ⟨h1_⟩
    have n2_ : Aside0 (w37.heap[gb785]? = some (.cells #[.int .i64 a0_0, .int .i64 a0_1, .int .i8 a0_2, .int .i8 a0_3] 92 (0, 0))) := ⟨h2_⟩
    have n3_ : Aside0 (w37.heap[gb786]? = some (.cells #[.int .i64 a1_0, .int .i64 a1_1, .int .i64 a1_2] 93 (0, 0))) := ⟨h3_⟩
    have n4_ : Aside0 (w37.heap[gb802]? = some (.cells #[.int .i64 t798, .int .i64 t799, .int .i64 t800] 73 (0, 0))) := ⟨h4_⟩
    have n5_ : Aside0 (w37.heap[gb817]? = some (.cells #[.int .i64 0, .int .i64 0, .int .i64 0] 73 (0, 0))) := ⟨h5_⟩
    have n6_ : Aside0 (w.heap.size ≤ gb817) := ⟨h6_⟩
    have n7_ : Aside0 (w.heap.size ≤ gb817) := ⟨h7_⟩
    have n8_ : Aside0 (gb785 ≠ gb817) := ⟨h8_⟩
    have n9_ : Aside0 (gb817 ≠ gb785) := ⟨h9_⟩
    have n10_ : Aside0 (gb786 ≠ gb817) := ⟨h10_⟩
    have n11_ : Aside0 (gb817 ≠ gb786) := ⟨h11_⟩
    have n12_ : Aside0 (gb802 ≠ gb817) := ⟨h12_⟩
    have n13_ : Aside0 (gb817 ≠ gb802) := ⟨h13_⟩
    have n14_ : Aside0 (Below w.heap.size w w37) := ⟨h14_⟩
    clear HO797
    clear HO805
    clear BK785
    clear BK786
    clear BK802
    clear HB
    clear h0_ h1_ h2_ h3_ h4_ h5_ h6_ h7_ h8_ h9_ h10_ h11_ h12_ h13_ h14_
    have HO797 := n0_
    have HO805 := n1_
    have BK785 := n2_
    have BK786 := n3_
    have BK802 := n4_
    have BK817 := n5_
    have GW817 := n6_
    have GE817 := n7_
    have NB785_817 := n8_
    have NB817_785 := n9_
    have NB786_817 := n10_
    have NB817_786 := n11_
    have NB802_817 := n12_
    have NB817_802 := n13_
    have HB := n14_
    clear n0_ n1_ n2_ n3_ n4_ n5_ n6_ n7_ n8_ n9_ n10_ n11_ n12_ n13_ n14_
    have hHeld : w37.cell? ⟨gb785, 0, none⟩ = some (.int .i64 a0_0) ∧ w37.cell? ⟨gb785, 1, none⟩ = some (.int .i64 a0_1) ∧ w37.cell? ⟨gb785, 2, none⟩ = some (.int .i8 a0_2) ∧ w37.cell? ⟨gb785, 3, none⟩ = some (.int .i8 a0_3) ∧ w37.cell? ⟨gb786, 0, none⟩ = some (.int .i64 a1_0) ∧ w37.cell? ⟨gb786, 1, none⟩ = some (.int .i64 a1_1) ∧ w37.cell? ⟨gb786, 2, none⟩ = some (.int .i64 a1_2) := hS_
    refine norm_ (a' := ?_) ?_ ?_
    rotate_left
    · simp only [putAll, Act.put, List.setIfInBounds_toArray, List.set_cons_zero, List.set_cons_succ]
      rfl
    refine one_ (i := 10) (N := none) #[true, true, true, true, true, true, true, true, true, true, true, false] rfl rfl (one_of HT_.out (by kernel_rfl)) (by decide) (fun K hK => ?_)
    have hs38 : w37.cell? ⟨gb817, 0, none⟩ = some (.int .i64 0) := (blk_cell BK817.out 0).trans rfl
    have hfs38 := blk_frozen BK817.out 0
    have hns38_0 := NB785_817.out
    have hns38_1 := NB786_817.out
    have hns38_2 := NB802_817.out
    have hms38_0 := NB817_785.out
    have hms38_1 := NB817_786.out
    have hms38_2 := NB817_802.out
    have hs39 : w37.cell? ⟨gb817, 1, none⟩ = some (.int .i64 0) := (blk_cell BK817.out 1).trans rfl
    have hfs39 := blk_frozen BK817.out 1
    have hns39_0 := NB785_817.out
    have hns39_1 := NB786_817.out
    have hns39_2 := NB802_817.out
    have hms39_0 := NB817_785.out
    have hms39_1 := NB817_786.out
    have hms39_2 := NB817_802.out
    have hs40 : w37.cell? ⟨gb817, 2, none⟩ = some (.int .i64 0) := (blk_cell BK817.out 2).trans rfl
    have hfs40 := blk_frozen BK817.out 2
    have hns40_0 := NB785_817.out
    have hns40_1 := NB786_817.out
    have hns40_2 := NB802_817.out
    have hms40_0 := NB817_785.out
    have hms40_1 := NB817_786.out
    have hms40_2 := NB817_802.out
    refine skip_ (w1 := ?_) (by rfl) rfl ?_ ?_
    rotate_left
    · go_simp
      rfl
    refine hK.out _ _ ⟨((cell_far (p := ⟨gb817, _, none⟩) NB785_817.out _).trans (((cell_far (p := ⟨gb817, _, none⟩) NB785_817.out _).trans (((cell_far (p := ⟨gb817, _, none⟩) NB785_817.out _).trans (hHeld.1)))))), ((cell_far (p := ⟨gb817, _, none⟩) NB785_817.out _).trans (((cell_far (p := ⟨gb817, _, none⟩) NB785_817.out _).trans (((cell_far (p := ⟨gb817, _, none⟩) NB785_817.out _).trans (hHeld.2.1)))))), ((cell_far (p := ⟨gb817, _, none⟩) NB785_817.out _).trans (((cell_far (p := ⟨gb817, _, none⟩) NB785_817.out _).trans (((cell_far (p := ⟨gb817, _, none⟩) NB785_817.out _).trans (hHeld.2.2.1)))))), ((cell_far (p := ⟨gb817, _, none⟩) NB785_817.out _).trans (((cell_far (p := ⟨gb817, _, none⟩) NB785_817.out _).trans (((cell_far (p := ⟨gb817, _, none⟩) NB785_817.out _).trans (hHeld.2.2.2.1)))))), ((cell_far (p := ⟨gb817, _, none⟩) NB786_817.out _).trans (((cell_far (p := ⟨gb817, _, none⟩) NB786_817.out _).trans (((cell_far (p := ⟨gb817, _, none⟩) NB786_817.out _).trans (hHeld.2.2.2.2.1)))))), ((cell_far (p := ⟨gb817, _, none⟩) NB786_817.out _).trans (((cell_far (p := ⟨gb817, _, none⟩) NB786_817.out _).trans (((cell_far (p := ⟨gb817, _, none⟩) NB786_817.out _).trans (hHeld.2.2.2.2.2.1)))))), ((cell_far (p := ⟨gb817, _, none⟩) NB786_817.out _).trans (((cell_far (p := ⟨gb817, _, none⟩) NB786_817.out _).trans (((cell_far (p := ⟨gb817, _, none⟩) NB786_817.out _).trans (hHeld.2.2.2.2.2.2))))))⟩ (fun hHeld => ?_)
    clear hK K
    refine pure_ (i := 11) (N := some 12) (v := ?_) (a' := ?_) #[true, true, true, true, true, true, true, true, true, true, true, true] rfl rfl (any_of HT_.out (by kernel_rfl)) (fun _ _ _ h => h) (Or.inl ⟨by rfl, ?_⟩) ?_ ?_
    rotate_left
    · intro w'
      go_simp
      with_reducible rfl
    rotate_left
    · simp only [Act.put, List.setIfInBounds_toArray, List.set_cons_zero, List.set_cons_succ, i64_w, i32_w]
      rfl
    refine done_ (done_of HT_.out (by kernel_rfl)) ?_
    go_upto_region 8 with (fail)
    go_cut [47] (fun v47 wc => ∃ (kq : Nat) (x47_15 : Bool), v47 = .bool x47_15 ∧ Aside0 (laws_FnExactDoActs.j0 kq l2 t803 x47_15 = some r) ∧ Aside0 (kq ≤ k) ∧ Aside0 (Kd.R k161 161 wc w.heap.size (fun _ => True) (.slice Ao31 t803.length co31) t803) ∧ Aside0 (wc.heap[gb785]? = some (.cells #[.int .i64 a0_0, .int .i64 a0_1, .int .i8 a0_2, .int .i8 a0_3] 92 (0, 0))) ∧ Aside0 (wc.heap[gb786]? = some (.cells #[.int .i64 a1_0, .int .i64 a1_1, .int .i64 a1_2] 93 (0, 0))) ∧ Aside0 (wc.heap[gb802]? = some (.cells #[.int .i64 t798, .int .i64 t799, .int .i64 t800] 73 (0, 0))) ∧ Aside0 (wc.heap[gb817]? = some (.cells #[.int .i64 t813, .int .i64 t814, .int .i64 t815] 73 (0, 0))) ∧ Aside0 (Below w.heap.size w wc))
    case first =>
      have H := HC16.out
      clear HC16
      replace H := Option.bind_eq_some_iff.mp H
      obtain ⟨t818, A410, H⟩ := H
      replace H : (if t818 = true then (laws_FnExactDoActs.j0 k l2 t803 (t816 != t801)) else (laws_FnExactDoActs.j0 k l2 t803 true)) = some r := H
      have A41 := Aside0.mk A410
      clear A410
      by_cases c42 : t818 = true
      · subst c42
        have H1 : (laws_FnExactDoActs.j0 k l2 t803 (t816 != t801)) = some r := by rw [if_pos rfl] at H; exact H
        clear H
        have H := H1
        clear H1
        have H' := Aside0.mk H
        clear H
        have hnb43 := NB817_785.out
        have hnc43 := NB785_817.out
        have hnb44 := NB817_786.out
        have hnc44 := NB786_817.out
        have hnb45 := NB817_802.out
        have hnc45 := NB802_817.out
        have hcz46_0 : w37.cell? ⟨gb817, 0, none⟩ = some (.int .i64 0) := (blk_cell BK817.out 0).trans rfl
        have hcz46_1 : w37.cell? ⟨gb817, 1, none⟩ = some (.int .i64 0) := (blk_cell BK817.out 1).trans rfl
        have hcz46_2 : w37.cell? ⟨gb817, 2, none⟩ = some (.int .i64 0) := (blk_cell BK817.out 2).trans rfl
        have hfz46_0 := blk_frozen BK817.out 0
        have hfz46_1 := blk_frozen BK817.out 1
        have hfz46_2 := blk_frozen BK817.out 2
        have hnb47 := NB802_785.out
        have hnc47 := NB785_802.out
        have hnb48 := NB802_786.out
        have hnc48 := NB786_802.out
        have hcz49_0 : w37.cell? ⟨gb802, 0, none⟩ = some (.int .i64 t798) := (blk_cell BK802.out 0).trans rfl
        have hcz49_1 : w37.cell? ⟨gb802, 1, none⟩ = some (.int .i64 t799) := (blk_cell BK802.out 1).trans rfl
        have hcz49_2 : w37.cell? ⟨gb802, 2, none⟩ = some (.int .i64 t800) := (blk_cell BK802.out 2).trans rfl
        have hfz49_0 := blk_frozen BK802.out 0
        have hfz49_1 := blk_frozen BK802.out 1
        have hfz49_2 := blk_frozen BK802.out 2
        go_wp2_with (first | ((with_reducible refine gate_callee (f := 78) rfl ?_); refine goesL_ (some 41) rfl rfl Try.func78 (by kernel_rfl) rfl #[.agg #[.int .i64 t813, .int .i64 t814, .int .i64 t815], .agg #[.int .i64 t798, .int .i64 t799, .int .i64 t800]] rfl (by (try simp only [List.map_toArray, List.map_cons, List.map_nil]); first | done | rfl | (simp only [List.length_drop, List.length_take]; rfl)) ?_; (with_reducible refine (laws_eqBath.calls t813 t814 t815 t798 t799 t800 true _ A41.out).mono ?_); rintro e w50 ⟨rfl, hb⟩; refine ⟨_, rfl, ?_⟩; have n0_ := Aside0.mk (Kd.R_below (by (with_reducible repeat (first | apply Kd.R_alloc | apply Kd.R_drewN | apply Kd.R_drew)); exact (Kd.R_mono (Kd.R_far (p := ⟨gb817, 2, none⟩) (Kd.R_far (p := ⟨gb817, 1, none⟩) (Kd.R_far (p := ⟨gb817, 0, none⟩) (Kd.R_types HO797.out BK817.out (by decide)) (fun _ hk => hk.2) (.int .i64 t813)) (fun _ hk => hk.2) (.int .i64 t814)) (fun _ hk => hk.2) (.int .i64 t815)) (fun _ h_ => h_.1))) hb); have n1_ := Aside0.mk (Kd.R_below (by (with_reducible repeat (first | apply Kd.R_alloc | apply Kd.R_drewN | apply Kd.R_drew)); exact (Kd.R_mono (Kd.R_far (p := ⟨gb817, 2, none⟩) (Kd.R_far (p := ⟨gb817, 1, none⟩) (Kd.R_far (p := ⟨gb817, 0, none⟩) (Kd.R_types HO805.out BK817.out (by decide)) (fun _ hk => hk.2) (.int .i64 t813)) (fun _ hk => hk.2) (.int .i64 t814)) (fun _ hk => hk.2) (.int .i64 t815)) (fun _ h_ => h_.1))) hb); have n2_ := Aside0.mk (blk_below (g := gb785) (o := .cells #[.int .i64 a0_0, .int .i64 a0_1, .int .i8 a0_2, .int .i8 a0_3] 92 (0, 0)) (by (with_reducible repeat (first | refine blk_drewN ?_ _ | refine blk_drew ?_ | refine blk_alloc ?_ _)); refine blk_far ?_ NB785_817.out _; (with_reducible repeat (first | refine blk_drewN ?_ _ | refine blk_drew ?_ | refine blk_alloc ?_ _)); refine blk_far ?_ NB785_817.out _; (with_reducible repeat (first | refine blk_drewN ?_ _ | refine blk_drew ?_ | refine blk_alloc ?_ _)); refine blk_far ?_ NB785_817.out _; (with_reducible repeat (first | refine blk_drewN ?_ _ | refine blk_drew ?_ | refine blk_alloc ?_ _)); exact BK785.out) hb); have n3_ := Aside0.mk (blk_below (g := gb786) (o := .cells #[.int .i64 a1_0, .int .i64 a1_1, .int .i64 a1_2] 93 (0, 0)) (by (with_reducible repeat (first | refine blk_drewN ?_ _ | refine blk_drew ?_ | refine blk_alloc ?_ _)); refine blk_far ?_ NB786_817.out _; (with_reducible repeat (first | refine blk_drewN ?_ _ | refine blk_drew ?_ | refine blk_alloc ?_ _)); refine blk_far ?_ NB786_817.out _; (with_reducible repeat (first | refine blk_drewN ?_ _ | refine blk_drew ?_ | refine blk_alloc ?_ _)); refine blk_far ?_ NB786_817.out _; (with_reducible repeat (first | refine blk_drewN ?_ _ | refine blk_drew ?_ | refine blk_alloc ?_ _)); exact BK786.out) hb); have n4_ := Aside0.mk (blk_below (g := gb802) (o := .cells #[.int .i64 t798, .int .i64 t799, .int .i64 t800] 73 (0, 0)) (by (with_reducible repeat (first | refine blk_drewN ?_ _ | refine blk_drew ?_ | refine blk_alloc ?_ _)); refine blk_far ?_ NB802_817.out _; (with_reducible repeat (first | refine blk_drewN ?_ _ | refine blk_drew ?_ | refine blk_alloc ?_ _)); refine blk_far ?_ NB802_817.out _; (with_reducible repeat (first | refine blk_drewN ?_ _ | refine blk_drew ?_ | refine blk_alloc ?_ _)); refine blk_far ?_ NB802_817.out _; (with_reducible repeat (first | refine blk_drewN ?_ _ | refine blk_drew ?_ | refine blk_alloc ?_ _)); exact BK802.out) hb); have n5_ := Aside0.mk (blk_below (g := gb817) (o := .cells #[.int .i64 t813, .int .i64 t814, .int .i64 t815] 73 (0, 0)) (by (with_reducible repeat (first | refine blk_drewN ?_ _ | refine blk_drew ?_ | refine blk_alloc ?_ _)); refine blk_put (cs := #[.int .i64 t813, .int .i64 t814, .int .i64 0]) ?_ 2 _ rfl; (with_reducible repeat (first | refine blk_drewN ?_ _ | refine blk_drew ?_ | refine blk_alloc ?_ _)); refine blk_put (cs := #[.int .i64 t813, .int .i64 0, .int .i64 0]) ?_ 1 _ rfl; (with_reducible repeat (first | refine blk_drewN ?_ _ | refine blk_drew ?_ | refine blk_alloc ?_ _)); refine blk_put (cs := #[.int .i64 0, .int .i64 0, .int .i64 0]) ?_ 0 _ rfl; (with_reducible repeat (first | refine blk_drewN ?_ _ | refine blk_drew ?_ | refine blk_alloc ?_ _)); exact BK817.out) hb); have n6_ := Aside0.mk (below_step (by repeat (first | (with_reducible first | exact HB.out | apply below_alloc | apply pw_below_drewN | apply below_drew1 | refine below_set ?_ GE785.out | refine below_set ?_ GE786.out | refine below_set ?_ GE802.out | refine below_set ?_ GE817.out) | exact HB.out)) hb); clear HO797; clear HO805; clear BK785; clear BK786; clear BK802; clear BK817; clear HB; have HO797 := n0_; have HO805 := n1_; have BK785 := n2_; have BK786 := n3_; have BK802 := n4_; have BK817 := n5_; have HB := n6_; clear n0_ n1_ n2_ n3_ n4_ n5_ n6_; (try clear hb); (try clear hb2); (try clear hk); (try clear hi)))
        go_meet
        case rel => exact ⟨_, ((t816 != t801)), (by first | rfl | (simp; done) | (simp [*]; done)), H', ⟨by first | omega | exact Nat.le_refl _⟩, ⟨by (with_reducible repeat (first | apply Kd.R_alloc | apply Kd.R_drewN | apply Kd.R_drew)); exact Kd.R_mono HO805.out (fun _ hk => trivial)⟩, ⟨by (with_reducible repeat (first | refine blk_drewN ?_ _ | refine blk_drew ?_ | refine blk_alloc ?_ _)); exact BK785.out⟩, ⟨by (with_reducible repeat (first | refine blk_drewN ?_ _ | refine blk_drew ?_ | refine blk_alloc ?_ _)); exact BK786.out⟩, ⟨by (with_reducible repeat (first | refine blk_drewN ?_ _ | refine blk_drew ?_ | refine blk_alloc ?_ _)); exact BK802.out⟩, ⟨by (with_reducible repeat (first | refine blk_drewN ?_ _ | refine blk_drew ?_ | refine blk_alloc ?_ _)); exact BK817.out⟩, ⟨by repeat (first | (with_reducible first | exact HB.out | apply below_alloc | apply pw_below_drewN | apply below_drew1 | refine below_set ?_ GE785.out | refine below_set ?_ GE786.out | refine below_set ?_ GE802.out | refine below_set ?_ GE817.out) | exact HB.out)⟩⟩
      · replace c42 := Bool.eq_false_iff.mpr c42
        subst c42
        have H1 : (laws_FnExactDoActs.j0 k l2 t803 true) = some r := by rw [if_neg (show ¬ (false = true) by decide)] at H; exact H
        clear H
        have H := H1
        clear H1
        have H' := Aside0.mk H
        clear H
        have hnb51 := NB817_785.out
        have hnc51 := NB785_817.out
        have hnb52 := NB817_786.out
        have hnc52 := NB786_817.out
        have hnb53 := NB817_802.out
        have hnc53 := NB802_817.out
        have hcz54_0 : w37.cell? ⟨gb817, 0, none⟩ = some (.int .i64 0) := (blk_cell BK817.out 0).trans rfl
        have hcz54_1 : w37.cell? ⟨gb817, 1, none⟩ = some (.int .i64 0) := (blk_cell BK817.out 1).trans rfl
        have hcz54_2 : w37.cell? ⟨gb817, 2, none⟩ = some (.int .i64 0) := (blk_cell BK817.out 2).trans rfl
        have hfz54_0 := blk_frozen BK817.out 0
        have hfz54_1 := blk_frozen BK817.out 1
        have hfz54_2 := blk_frozen BK817.out 2
        have hnb55 := NB802_785.out
        have hnc55 := NB785_802.out
        have hnb56 := NB802_786.out
        have hnc56 := NB786_802.out
        have hcz57_0 : w37.cell? ⟨gb802, 0, none⟩ = some (.int .i64 t798) := (blk_cell BK802.out 0).trans rfl
        have hcz57_1 : w37.cell? ⟨gb802, 1, none⟩ = some (.int .i64 t799) := (blk_cell BK802.out 1).trans rfl
        have hcz57_2 : w37.cell? ⟨gb802, 2, none⟩ = some (.int .i64 t800) := (blk_cell BK802.out 2).trans rfl
        have hfz57_0 := blk_frozen BK802.out 0
        have hfz57_1 := blk_frozen BK802.out 1
        have hfz57_2 := blk_frozen BK802.out 2
        go_wp2_with (first | ((with_reducible refine gate_callee (f := 78) rfl ?_); refine goesL_ (some 41) rfl rfl Try.func78 (by kernel_rfl) rfl #[.agg #[.int .i64 t813, .int .i64 t814, .int .i64 t815], .agg #[.int .i64 t798, .int .i64 t799, .int .i64 t800]] rfl (by (try simp only [List.map_toArray, List.map_cons, List.map_nil]); first | done | rfl | (simp only [List.length_drop, List.length_take]; rfl)) ?_; (with_reducible refine (laws_eqBath.calls t813 t814 t815 t798 t799 t800 false _ A41.out).mono ?_); rintro e w58 ⟨rfl, hb⟩; refine ⟨_, rfl, ?_⟩; have n0_ := Aside0.mk (Kd.R_below (by (with_reducible repeat (first | apply Kd.R_alloc | apply Kd.R_drewN | apply Kd.R_drew)); exact (Kd.R_mono (Kd.R_far (p := ⟨gb817, 2, none⟩) (Kd.R_far (p := ⟨gb817, 1, none⟩) (Kd.R_far (p := ⟨gb817, 0, none⟩) (Kd.R_types HO797.out BK817.out (by decide)) (fun _ hk => hk.2) (.int .i64 t813)) (fun _ hk => hk.2) (.int .i64 t814)) (fun _ hk => hk.2) (.int .i64 t815)) (fun _ h_ => h_.1))) hb); have n1_ := Aside0.mk (Kd.R_below (by (with_reducible repeat (first | apply Kd.R_alloc | apply Kd.R_drewN | apply Kd.R_drew)); exact (Kd.R_mono (Kd.R_far (p := ⟨gb817, 2, none⟩) (Kd.R_far (p := ⟨gb817, 1, none⟩) (Kd.R_far (p := ⟨gb817, 0, none⟩) (Kd.R_types HO805.out BK817.out (by decide)) (fun _ hk => hk.2) (.int .i64 t813)) (fun _ hk => hk.2) (.int .i64 t814)) (fun _ hk => hk.2) (.int .i64 t815)) (fun _ h_ => h_.1))) hb); have n2_ := Aside0.mk (blk_below (g := gb785) (o := .cells #[.int .i64 a0_0, .int .i64 a0_1, .int .i8 a0_2, .int .i8 a0_3] 92 (0, 0)) (by (with_reducible repeat (first | refine blk_drewN ?_ _ | refine blk_drew ?_ | refine blk_alloc ?_ _)); refine blk_far ?_ NB785_817.out _; (with_reducible repeat (first | refine blk_drewN ?_ _ | refine blk_drew ?_ | refine blk_alloc ?_ _)); refine blk_far ?_ NB785_817.out _; (with_reducible repeat (first | refine blk_drewN ?_ _ | refine blk_drew ?_ | refine blk_alloc ?_ _)); refine blk_far ?_ NB785_817.out _; (with_reducible repeat (first | refine blk_drewN ?_ _ | refine blk_drew ?_ | refine blk_alloc ?_ _)); exact BK785.out) hb); have n3_ := Aside0.mk (blk_below (g := gb786) (o := .cells #[.int .i64 a1_0, .int .i64 a1_1, .int .i64 a1_2] 93 (0, 0)) (by (with_reducible repeat (first | refine blk_drewN ?_ _ | refine blk_drew ?_ | refine blk_alloc ?_ _)); refine blk_far ?_ NB786_817.out _; (with_reducible repeat (first | refine blk_drewN ?_ _ | refine blk_drew ?_ | refine blk_alloc ?_ _)); refine blk_far ?_ NB786_817.out _; (with_reducible repeat (first | refine blk_drewN ?_ _ | refine blk_drew ?_ | refine blk_alloc ?_ _)); refine blk_far ?_ NB786_817.out _; (with_reducible repeat (first | refine blk_drewN ?_ _ | refine blk_drew ?_ | refine blk_alloc ?_ _)); exact BK786.out) hb); have n4_ := Aside0.mk (blk_below (g := gb802) (o := .cells #[.int .i64 t798, .int .i64 t799, .int .i64 t800] 73 (0, 0)) (by (with_reducible repeat (first | refine blk_drewN ?_ _ | refine blk_drew ?_ | refine blk_alloc ?_ _)); refine blk_far ?_ NB802_817.out _; (with_reducible repeat (first | refine blk_drewN ?_ _ | refine blk_drew ?_ | refine blk_alloc ?_ _)); refine blk_far ?_ NB802_817.out _; (with_reducible repeat (first | refine blk_drewN ?_ _ | refine blk_drew ?_ | refine blk_alloc ?_ _)); refine blk_far ?_ NB802_817.out _; (with_reducible repeat (first | refine blk_drewN ?_ _ | refine blk_drew ?_ | refine blk_alloc ?_ _)); exact BK802.out) hb); have n5_ := Aside0.mk (blk_below (g := gb817) (o := .cells #[.int .i64 t813, .int .i64 t814, .int .i64 t815] 73 (0, 0)) (by (with_reducible repeat (first | refine blk_drewN ?_ _ | refine blk_drew ?_ | refine blk_alloc ?_ _)); refine blk_put (cs := #[.int .i64 t813, .int .i64 t814, .int .i64 0]) ?_ 2 _ rfl; (with_reducible repeat (first | refine blk_drewN ?_ _ | refine blk_drew ?_ | refine blk_alloc ?_ _)); refine blk_put (cs := #[.int .i64 t813, .int .i64 0, .int .i64 0]) ?_ 1 _ rfl; (with_reducible repeat (first | refine blk_drewN ?_ _ | refine blk_drew ?_ | refine blk_alloc ?_ _)); refine blk_put (cs := #[.int .i64 0, .int .i64 0, .int .i64 0]) ?_ 0 _ rfl; (with_reducible repeat (first | refine blk_drewN ?_ _ | refine blk_drew ?_ | refine blk_alloc ?_ _)); exact BK817.out) hb); have n6_ := Aside0.mk (below_step (by repeat (first | (with_reducible first | exact HB.out | apply below_alloc | apply pw_below_drewN | apply below_drew1 | refine below_set ?_ GE785.out | refine below_set ?_ GE786.out | refine below_set ?_ GE802.out | refine below_set ?_ GE817.out) | exact HB.out)) hb); clear HO797; clear HO805; clear BK785; clear BK786; clear BK802; clear BK817; clear HB; have HO797 := n0_; have HO805 := n1_; have BK785 := n2_; have BK786 := n3_; have BK802 := n4_; have BK817 := n5_; have HB := n6_; clear n0_ n1_ n2_ n3_ n4_ n5_ n6_; (try clear hb); (try clear hb2); (try clear hk); (try clear hi)))
        go_meet
        case rel => exact ⟨_, (true), (by first | rfl | (simp; done) | (simp [*]; done)), H', ⟨by first | omega | exact Nat.le_refl _⟩, ⟨by (with_reducible repeat (first | apply Kd.R_alloc | apply Kd.R_drewN | apply Kd.R_drew)); exact Kd.R_mono HO805.out (fun _ hk => trivial)⟩, ⟨by (with_reducible repeat (first | refine blk_drewN ?_ _ | refine blk_drew ?_ | refine blk_alloc ?_ _)); exact BK785.out⟩, ⟨by (with_reducible repeat (first | refine blk_drewN ?_ _ | refine blk_drew ?_ | refine blk_alloc ?_ _)); exact BK786.out⟩, ⟨by (with_reducible repeat (first | refine blk_drewN ?_ _ | refine blk_drew ?_ | refine blk_alloc ?_ _)); exact BK802.out⟩, ⟨by (with_reducible repeat (first | refine blk_drewN ?_ _ | refine blk_drew ?_ | refine blk_alloc ?_ _)); exact BK817.out⟩, ⟨by repeat (first | (with_reducible first | exact HB.out | apply below_alloc | apply pw_below_drewN | apply below_drew1 | refine below_set ?_ GE785.out | refine below_set ?_ GE786.out | refine below_set ?_ GE802.out | refine below_set ?_ GE817.out) | exact HB.out)⟩⟩
    case rest =>
      clear HC16
      try clear p2
      try clear c4
      try clear c5
      try clear c7
      try clear c42
      try clear c43
      try clear c44
      try clear c45
      try clear c47
      try clear c48
      try clear c51
      try clear c52
      try clear c53
      try clear c55
      try clear c56
      try clear hcz46_0
      try clear hcz46_1
      try clear hcz46_2
      try clear hcz49_0
      try clear hcz49_1
      try clear hcz49_2
      try clear hcz54_0
      try clear hcz54_1
      try clear hcz54_2
      try clear hcz57_0
      try clear hcz57_1
      try clear hcz57_2
      try clear hfz46_0
      try clear hfz46_1
      try clear hfz46_2
      try clear hfz49_0
      try clear hfz49_1
      try clear hfz49_2
      try clear hfz54_0
      try clear hfz54_1
      try clear hfz54_2
      try clear hfz57_0
      try clear hfz57_1
      try clear hfz57_2
      obtain ⟨kq, x47_15, rfl, HA, HJ15, HO_10, BK785, BK786, BK802, BK817, HB⟩ := hcut
      cases kq with
      | zero => exact absurd HA.out (by simp [laws_FnExactDoActs.j0])
      | succ kj15 =>
        have H := HA.out
        clear HA
        simp only [laws_FnExactDoActs.j0] at H
        by_cases c59 : x47_15 = true
        · subst c59
          have H1 : (some false) = some r := by rw [if_pos rfl] at H; exact H
          clear H
          have H := H1
          clear H1
          exact absurd (Option.some.inj H) (by rw [hT_.out]; decide)
        · replace c59 := Bool.eq_false_iff.mpr c59
          subst c59
          have H1 : ((laws_toActS.f kj15 l2).bind fun t819 => ((laws_eqActS.f kj15 t803 t819).bind fun t822 => (if t822 = true then (some true) else (some false)))) = some r := by rw [if_neg (show ¬ (false = true) by decide)] at H; exact H
          clear H
          have H := H1
          clear H1
          replace H := Option.bind_eq_some_iff.mp H
          obtain ⟨t819, A600, H⟩ := H
          replace H : ((laws_eqActS.f kj15 t803 t819).bind fun t822 => (if t822 = true then (some true) else (some false))) = some r := H
          have A60 := Aside0.mk A600
          clear A600
          replace H := Option.bind_eq_some_iff.mp H
          obtain ⟨t822, A610, H⟩ := H
          replace H : (if t822 = true then (some true) else (some false)) = some r := H
          have A61 := Aside0.mk A610
          clear A610
          by_cases c62 : t822 = true
          · subst c62
            have H1 : (some true) = some r := by rw [if_pos rfl] at H; exact H
            clear H
            have H := H1
            clear H1
            obtain rfl := Option.some.inj H
            go_wp2_with (first | ((with_reducible refine gate_callee (f := 73) rfl ?_); refine goesL_ (some 50) rfl rfl Try.func73 (by kernel_rfl) rfl #[.slice A2 l2.length c2] rfl (by (try simp only [List.map_toArray, List.map_cons, List.map_nil]); first | done | rfl | (simp only [List.length_drop, List.length_take]; rfl)) ?_; (with_reducible refine (laws_toActS.calls kj15 _ _ l2 t819 _ ?side1 ?side2 A60.out).mono ?_); (case side1 => repeat (first | exact (Kd.C_below HR2.out HB.out) | (with_reducible refine Kd.C_alloc ?_ _) | (with_reducible refine Kd.C_drewN ?_ _) | (with_reducible refine Kd.C_drew ?_))); (case side2 => exact HC2.out); rintro e w63 ⟨v820, rfl, ho0, hb⟩; refine ⟨_, rfl, ?_⟩; have n0_ := Aside0.mk (Kd.R_elder' HO_10.out (Kd.R_base ho0) hb); have n1_ := Aside0.mk (Kd.R_lower (Kd.R_new' ho0 (Kd.R_lt HO_10.out)) (below_size HB.out)); have n2_ := Aside0.mk (blk_below BK785.out hb); have n3_ := Aside0.mk (blk_below BK786.out hb); have n4_ := Aside0.mk (blk_below BK802.out hb); have n5_ := Aside0.mk (blk_below BK817.out hb); have n6_ := Aside0.mk (below_step HB.out hb); clear HO_10; clear BK785; clear BK786; clear BK802; clear BK817; clear HB; have HO_10 := n0_; have HO821 := n1_; have BK785 := n2_; have BK786 := n3_; have BK802 := n4_; have BK817 := n5_; have HB := n6_; clear n0_ n1_ n2_ n3_ n4_ n5_ n6_; (try clear hb); (try clear hb2); (try clear hk); (try clear hi); (try clear ho0); obtain ⟨Ao64, co64, eo64⟩ := Kd.R_slice HO821.out; subst eo64) | ((with_reducible refine gate_callee (f := 75) rfl ?_); refine goesL_ (some 51) rfl rfl Try.func75 (by kernel_rfl) rfl #[.slice Ao31 t803.length co31, .slice Ao64 t819.length co64] rfl (by (try simp only [List.map_toArray, List.map_cons, List.map_nil]); first | done | rfl | (simp only [List.length_drop, List.length_take]; rfl)) ?_; (with_reducible refine (laws_eqActS.calls kj15 _ _ t803 _ _ t819 true _ ?side1 ?side2 ?side3 ?side4 A61.out).mono ?_); (case side1 => repeat (first | exact (Kd.R_reads' HO_10.out).2.2 | (with_reducible refine Kd.C_alloc ?_ _) | (with_reducible refine Kd.C_drewN ?_ _) | (with_reducible refine Kd.C_drew ?_))); (case side2 => exact (Kd.R_reads' HO_10.out).2.1); (case side3 => repeat (first | exact (Kd.R_reads' HO821.out).2.2 | (with_reducible refine Kd.C_alloc ?_ _) | (with_reducible refine Kd.C_drewN ?_ _) | (with_reducible refine Kd.C_drew ?_))); (case side4 => exact (Kd.R_reads' HO821.out).2.1); rintro e w65 ⟨rfl, hb⟩; refine ⟨_, rfl, ?_⟩; have n0_ := Aside0.mk (Kd.R_below HO_10.out hb); have n1_ := Aside0.mk (Kd.R_below HO821.out hb); have n2_ := Aside0.mk (blk_below BK785.out hb); have n3_ := Aside0.mk (blk_below BK786.out hb); have n4_ := Aside0.mk (blk_below BK802.out hb); have n5_ := Aside0.mk (blk_below BK817.out hb); have n6_ := Aside0.mk (below_step HB.out hb); clear HO_10; clear HO821; clear BK785; clear BK786; clear BK802; clear BK817; clear HB; have HO_10 := n0_; have HO821 := n1_; have BK785 := n2_; have BK786 := n3_; have BK802 := n4_; have BK817 := n5_; have HB := n6_; clear n0_ n1_ n2_ n3_ n4_ n5_ n6_; (try clear hb); (try clear hb2); (try clear hk); (try clear hi)))
            go_ret
            exact ⟨by first | rfl | (simp [errW_none, errW_some] <;> rfl) | (simp [*, errW_none, errW_some] <;> rfl), by repeat (first | (with_reducible first | exact HB.out | apply below_alloc | apply pw_below_drewN | apply below_drew1 | refine below_set ?_ GE785.out | refine below_set ?_ GE786.out | refine below_set ?_ GE802.out | refine below_set ?_ GE817.out) | exact HB.out)⟩
          · replace c62 := Bool.eq_false_iff.mpr c62
            subst c62
            have H1 : (some false) = some r := by rw [if_neg (show ¬ (false = true) by decide)] at H; exact H
            clear H
            have H := H1
            clear H1
            exact absurd (Option.some.inj H) (by rw [hT_.out]; decide)

end Go.Proofs.Ytcimollhdocphaa.Q
