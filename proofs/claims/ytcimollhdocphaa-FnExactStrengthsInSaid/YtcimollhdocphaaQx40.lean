-- Written by wip/mk.py of this repository (a run of the kit's print with hand-proved leaves added); Lean checks it.
import Derived.Test.YtcimollhdocphaaQx0
import Derived.Test.YtcimollhdocphaaQx18
import Derived.Test.YtcimollhdocphaaQx20
import Derived.Test.YtcimollhdocphaaQx21
import Derived.Test.YtcimollhdocphaaQx22
import Derived.Test.YtcimollhdocphaaQx23
import Derived.Test.YtcimollhdocphaaQx39
namespace Go.Proofs.Ytcimollhdocphaa.Q
open Go.RowKit Go.Proofs.YtcimollhdocphaaW.PrintWords Go.Proofs.YtcimollhdocphaaW.PrintLast Go.Proofs.YtcimollhdocphaaW.PrintMore
attribute [local go_sem] max2_int min2_int max_two min_two max_three min_three max_four min_four   -- for this text's walks alone
set_option linter.unusedVariables false
set_option linter.unusedSimpArgs false

/-! ### laws_FnExactStrengthsIn: function 11 -/
mutual
def laws_FnExactStrengthsIn.j0 : Nat → List (S163) → List Int → Int → List (S161) → List Int → Int → Bool → Int → Int → Int → Int → Int → Int → Int → Option (Bool)
  | 0, _, _, _, _, _, _, _, _, _, _, _, _, _, _ => none
  | k + 1, x2, x8, x9, x10, x11, x12, x52, x859000, x859001, x859002, x859003, x860000, x860001, x860002 => if x52 = true then (some false) else ((laws_toActS.f k x2).bind fun t890 => ((laws_eqActS.f k x10 t890).bind fun t893 => (if t893 = true then ((laws_markActS.f k x10 1).bind fun bt894 => (if bt894.1 < 0 then (laws_FnExactStrengthsIn.j1 k x2 x8 x9 x11 true x859000 x859001 x859002 x859003 x860000 x860001 x860002) else ((laws_eqInt64S.f k x11 x8).bind fun t896 => (if t896 = true then (laws_FnExactStrengthsIn.j1 k x2 x8 x9 x11 (x12 != x9) x859000 x859001 x859002 x859003 x860000 x860001 x860002) else (laws_FnExactStrengthsIn.j1 k x2 x8 x9 x11 true x859000 x859001 x859002 x859003 x860000 x860001 x860002))))) else (some false))))
def laws_FnExactStrengthsIn.j1 : Nat → List (S163) → List Int → Int → List Int → Bool → Int → Int → Int → Int → Int → Int → Int → Option (Bool)
  | 0, _, _, _, _, _, _, _, _, _, _, _, _ => none
  | k + 1, x2, x8, x9, x11, x73, x859000, x859001, x859002, x859003, x860000, x860001, x860002 => if x73 = true then (some false) else ((laws_markInt64S.f k x11 1).bind fun bt897 => ((laws_heldInt64S.f k bt897.2 1).bind fun t899 => (if t899 < 0 then (some false) else (if t899 = bt897.1 then ((laws_toDeveloper.f x859000 x859001 x859002 x859003).bind fun bt900 => ((laws_toBath.f x860000 x860001 x860002).bind fun bt904 => ((laws_toActS.f k x2).bind fun t907 => ((impl_StrengthsIn.f k bt900.1 bt900.2.1 bt900.2.2.1 bt900.2.2.2 bt904.1 bt904.2.1 bt904.2.2 t907).bind fun bt910 => ((laws_eqInt64S.f k bt910.1 x8).bind fun t914 => (if t914 = true then (laws_FnExactStrengthsIn.j2 k bt897.2 bt897.1 (bt910.2 != x9)) else (laws_FnExactStrengthsIn.j2 k bt897.2 bt897.1 true))))))) else (some false)))))
def laws_FnExactStrengthsIn.j2 : Nat → List Int → Int → Bool → Option (Bool)
  | 0, _, _, _ => none
  | k + 1, x11, x14, x103 => if x103 = true then (some false) else ((laws_heldInt64S.f k x11 1).bind fun t915 => (if t915 < 0 then (some false) else (if t915 = x14 then (some true) else (some false))))
end
def laws_FnExactStrengthsIn.f (k : Nat) (a0_0 : Int) (a0_1 : Int) (a0_2 : Int) (a0_3 : Int) (a1_0 : Int) (a1_1 : Int) (a1_2 : Int) (l2 : List (S163)) : Option (Bool) := (laws_szActS.f l2 1048576).bind fun t860 => (if t860 < 0 then (some true) else ((laws_toDeveloper.f a0_0 a0_1 a0_2 a0_3).bind fun bt861 => ((laws_toBath.f a1_0 a1_1 a1_2).bind fun bt865 => ((laws_toActS.f k l2).bind fun t868 => ((spec_StrengthsIn.f k bt861.1 bt861.2.1 bt861.2.2.1 bt861.2.2.2 bt865.1 bt865.2.1 bt865.2.2 t868).bind fun bt871 => ((laws_toActS.f k l2).bind fun t875 => ((laws_toDeveloper.f a0_0 a0_1 a0_2 a0_3).bind fun bt878 => ((laws_toBath.f a1_0 a1_1 a1_2).bind fun bt882 => ((impl_StrengthsIn.f k bt878.1 bt878.2.1 bt878.2.2.1 bt878.2.2.2 bt882.1 bt882.2.1 bt882.2.2 t875).bind fun bt885 => ((laws_eqInt64S.f k bt885.1 bt871.1).bind fun t889 => (if t889 = true then (laws_FnExactStrengthsIn.j0 k l2 bt871.1 bt871.2 t875 bt885.1 bt885.2 (bt885.2 != bt871.2) a0_0 a0_1 a0_2 a0_3 a1_0 a1_1 a1_2) else (laws_FnExactStrengthsIn.j0 k l2 bt871.1 bt871.2 t875 bt885.1 bt885.2 true a0_0 a0_1 a0_2 a0_3 a1_0 a1_1 a1_2))))))))))))
theorem laws_FnExactStrengthsIn.mono_l : ∀ k, (∀ y0 y1 y2 y3 y4 y5 y6 y7 y8 y9 y10 y11 y12 y13, LeO (laws_FnExactStrengthsIn.j0 k y0 y1 y2 y3 y4 y5 y6 y7 y8 y9 y10 y11 y12 y13) (laws_FnExactStrengthsIn.j0 (k + 1) y0 y1 y2 y3 y4 y5 y6 y7 y8 y9 y10 y11 y12 y13)) ∧ (∀ y0 y1 y2 y3 y4 y5 y6 y7 y8 y9 y10 y11, LeO (laws_FnExactStrengthsIn.j1 k y0 y1 y2 y3 y4 y5 y6 y7 y8 y9 y10 y11) (laws_FnExactStrengthsIn.j1 (k + 1) y0 y1 y2 y3 y4 y5 y6 y7 y8 y9 y10 y11)) ∧ (∀ y0 y1 y2, LeO (laws_FnExactStrengthsIn.j2 k y0 y1 y2) (laws_FnExactStrengthsIn.j2 (k + 1) y0 y1 y2))
  | 0 => ⟨fun _ _ _ _ _ _ _ _ _ _ _ _ _ _ r h => by simp [laws_FnExactStrengthsIn.j0] at h, fun _ _ _ _ _ _ _ _ _ _ _ _ r h => by simp [laws_FnExactStrengthsIn.j1] at h, fun _ _ _ r h => by simp [laws_FnExactStrengthsIn.j2] at h⟩
  | k + 1 => by
    obtain ⟨ih0, ih1, ih2⟩ := laws_FnExactStrengthsIn.mono_l k
    refine ⟨?_, ?_, ?_⟩
    · intro y0 y1 y2 y3 y4 y5 y6 y7 y8 y9 y10 y11 y12 y13
      unfold laws_FnExactStrengthsIn.j0
      repeat' first
      | (with_reducible exact ih0 _ _ _ _ _ _ _ _ _ _ _ _ _ _)
      | (with_reducible exact ih1 _ _ _ _ _ _ _ _ _ _ _ _)
      | (with_reducible exact ih2 _ _ _)
      | (with_reducible exact impl_StrengthsIn.mono _ _ _ _ _ _ _ _ _)
      | (with_reducible exact laws_eqActS.mono _ _ _)
      | (with_reducible exact laws_eqInt64S.mono _ _ _)
      | (with_reducible exact laws_heldInt64S.mono _ _ _)
      | (with_reducible exact laws_markActS.mono _ _ _)
      | (with_reducible exact laws_markInt64S.mono _ _ _)
      | (with_reducible exact laws_toActS.mono _ _)
      | (with_reducible exact spec_StrengthsIn.mono _ _ _ _ _ _ _ _ _)
      | (with_reducible exact LeO.refl _)
      | (with_reducible exact LeO.none _)
      | (with_reducible refine LeO.ite ?_ ?_)
      | (with_reducible refine LeO.bind ?_ (fun _ => ?_))
      | exact ih0 _ _ _ _ _ _ _ _ _ _ _ _ _ _
      | exact ih1 _ _ _ _ _ _ _ _ _ _ _ _
      | exact ih2 _ _ _
      | exact impl_StrengthsIn.mono _ _ _ _ _ _ _ _ _
      | exact laws_eqActS.mono _ _ _
      | exact laws_eqInt64S.mono _ _ _
      | exact laws_heldInt64S.mono _ _ _
      | exact laws_markActS.mono _ _ _
      | exact laws_markInt64S.mono _ _ _
      | exact laws_toActS.mono _ _
      | exact spec_StrengthsIn.mono _ _ _ _ _ _ _ _ _
      | exact LeO.none _
      | refine LeO.ite ?_ ?_
      | refine LeO.bind ?_ (fun _ => ?_)
    · intro y0 y1 y2 y3 y4 y5 y6 y7 y8 y9 y10 y11
      unfold laws_FnExactStrengthsIn.j1
      repeat' first
      | (with_reducible exact ih0 _ _ _ _ _ _ _ _ _ _ _ _ _ _)
      | (with_reducible exact ih1 _ _ _ _ _ _ _ _ _ _ _ _)
      | (with_reducible exact ih2 _ _ _)
      | (with_reducible exact impl_StrengthsIn.mono _ _ _ _ _ _ _ _ _)
      | (with_reducible exact laws_eqActS.mono _ _ _)
      | (with_reducible exact laws_eqInt64S.mono _ _ _)
      | (with_reducible exact laws_heldInt64S.mono _ _ _)
      | (with_reducible exact laws_markActS.mono _ _ _)
      | (with_reducible exact laws_markInt64S.mono _ _ _)
      | (with_reducible exact laws_toActS.mono _ _)
      | (with_reducible exact spec_StrengthsIn.mono _ _ _ _ _ _ _ _ _)
      | (with_reducible exact LeO.refl _)
      | (with_reducible exact LeO.none _)
      | (with_reducible refine LeO.ite ?_ ?_)
      | (with_reducible refine LeO.bind ?_ (fun _ => ?_))
      | exact ih0 _ _ _ _ _ _ _ _ _ _ _ _ _ _
      | exact ih1 _ _ _ _ _ _ _ _ _ _ _ _
      | exact ih2 _ _ _
      | exact impl_StrengthsIn.mono _ _ _ _ _ _ _ _ _
      | exact laws_eqActS.mono _ _ _
      | exact laws_eqInt64S.mono _ _ _
      | exact laws_heldInt64S.mono _ _ _
      | exact laws_markActS.mono _ _ _
      | exact laws_markInt64S.mono _ _ _
      | exact laws_toActS.mono _ _
      | exact spec_StrengthsIn.mono _ _ _ _ _ _ _ _ _
      | exact LeO.none _
      | refine LeO.ite ?_ ?_
      | refine LeO.bind ?_ (fun _ => ?_)
    · intro y0 y1 y2
      unfold laws_FnExactStrengthsIn.j2
      repeat' first
      | (with_reducible exact ih0 _ _ _ _ _ _ _ _ _ _ _ _ _ _)
      | (with_reducible exact ih1 _ _ _ _ _ _ _ _ _ _ _ _)
      | (with_reducible exact ih2 _ _ _)
      | (with_reducible exact impl_StrengthsIn.mono _ _ _ _ _ _ _ _ _)
      | (with_reducible exact laws_eqActS.mono _ _ _)
      | (with_reducible exact laws_eqInt64S.mono _ _ _)
      | (with_reducible exact laws_heldInt64S.mono _ _ _)
      | (with_reducible exact laws_markActS.mono _ _ _)
      | (with_reducible exact laws_markInt64S.mono _ _ _)
      | (with_reducible exact laws_toActS.mono _ _)
      | (with_reducible exact spec_StrengthsIn.mono _ _ _ _ _ _ _ _ _)
      | (with_reducible exact LeO.refl _)
      | (with_reducible exact LeO.none _)
      | (with_reducible refine LeO.ite ?_ ?_)
      | (with_reducible refine LeO.bind ?_ (fun _ => ?_))
      | exact ih0 _ _ _ _ _ _ _ _ _ _ _ _ _ _
      | exact ih1 _ _ _ _ _ _ _ _ _ _ _ _
      | exact ih2 _ _ _
      | exact impl_StrengthsIn.mono _ _ _ _ _ _ _ _ _
      | exact laws_eqActS.mono _ _ _
      | exact laws_eqInt64S.mono _ _ _
      | exact laws_heldInt64S.mono _ _ _
      | exact laws_markActS.mono _ _ _
      | exact laws_markInt64S.mono _ _ _
      | exact laws_toActS.mono _ _
      | exact spec_StrengthsIn.mono _ _ _ _ _ _ _ _ _
      | exact LeO.none _
      | refine LeO.ite ?_ ?_
      | refine LeO.bind ?_ (fun _ => ?_)
theorem laws_FnExactStrengthsIn.mono : ∀ a0 a1 a2 a3 a4 a5 a6 a7 k, LeO (laws_FnExactStrengthsIn.f k a0 a1 a2 a3 a4 a5 a6 a7) (laws_FnExactStrengthsIn.f (k + 1) a0 a1 a2 a3 a4 a5 a6 a7) := by
  intro a0 a1 a2 a3 a4 a5 a6 a7 k
  obtain ⟨ih0, ih1, ih2⟩ := laws_FnExactStrengthsIn.mono_l k
  unfold laws_FnExactStrengthsIn.f
  repeat' first
      | (with_reducible exact ih0 _ _ _ _ _ _ _ _ _ _ _ _ _ _)
      | (with_reducible exact ih1 _ _ _ _ _ _ _ _ _ _ _ _)
      | (with_reducible exact ih2 _ _ _)
      | (with_reducible exact impl_StrengthsIn.mono _ _ _ _ _ _ _ _ _)
      | (with_reducible exact laws_eqActS.mono _ _ _)
      | (with_reducible exact laws_eqInt64S.mono _ _ _)
      | (with_reducible exact laws_heldInt64S.mono _ _ _)
      | (with_reducible exact laws_markActS.mono _ _ _)
      | (with_reducible exact laws_markInt64S.mono _ _ _)
      | (with_reducible exact laws_toActS.mono _ _)
      | (with_reducible exact spec_StrengthsIn.mono _ _ _ _ _ _ _ _ _)
      | (with_reducible exact LeO.refl _)
      | (with_reducible exact LeO.none _)
      | (with_reducible refine LeO.ite ?_ ?_)
      | (with_reducible refine LeO.bind ?_ (fun _ => ?_))
      | exact ih0 _ _ _ _ _ _ _ _ _ _ _ _ _ _
      | exact ih1 _ _ _ _ _ _ _ _ _ _ _ _
      | exact ih2 _ _ _
      | exact impl_StrengthsIn.mono _ _ _ _ _ _ _ _ _
      | exact laws_eqActS.mono _ _ _
      | exact laws_eqInt64S.mono _ _ _
      | exact laws_heldInt64S.mono _ _ _
      | exact laws_markActS.mono _ _ _
      | exact laws_markInt64S.mono _ _ _
      | exact laws_toActS.mono _ _
      | exact spec_StrengthsIn.mono _ _ _ _ _ _ _ _ _
      | exact LeO.none _
      | refine LeO.ite ?_ ?_
      | refine LeO.bind ?_ (fun _ => ?_)
def laws_FnExactStrengthsIn.T5 : Bool × List (List Nat × List Nat) := (true, [([], []), ([0], [0]), ([], []), ([2, 1], [2]), ([], []), ([4, 3], [4]), ([1, 3, 5, 5], [1, 3, 5]), ([6], [6]), ([7], [7]), ([7], [7]), ([8, 6, 0, 1, 2, 3, 4, 5, 6, 7, 8], [8]), ([9, 10, 0, 1, 2, 3, 4, 5, 6, 7, 8, 9, 10], [9])])
def laws_FnExactStrengthsIn.B5 : List Nat := [0, 1, 0, 7, 0, 31, 63, 127, 255, 255, 511, 2047]
theorem laws_FnExactStrengthsIn.tab5 : rtab .any (opsOf Try.f11 5) = laws_FnExactStrengthsIn.T5 := by kernel_rfl
theorem laws_FnExactStrengthsIn.bits5 : waitsOk laws_FnExactStrengthsIn.T5.2 laws_FnExactStrengthsIn.B5 = true := by kernel_rfl
def laws_FnExactStrengthsIn.T7 : Bool × List (List Nat × List Nat) := (true, [([], []), ([0], [0]), ([], []), ([2, 1], [2]), ([], []), ([1, 3, 4, 3], [1, 3, 4]), ([5], [5]), ([6], [6]), ([6], [6]), ([7, 5, 0, 1, 2, 3, 4, 5, 6, 7], [7]), ([8, 9, 0, 1, 2, 3, 4, 5, 6, 7, 8, 9], [8])])
def laws_FnExactStrengthsIn.B7 : List Nat := [0, 1, 0, 7, 0, 31, 63, 127, 127, 255, 1023]
theorem laws_FnExactStrengthsIn.tab7 : rtab .any (opsOf Try.f11 7) = laws_FnExactStrengthsIn.T7 := by kernel_rfl
theorem laws_FnExactStrengthsIn.bits7 : waitsOk laws_FnExactStrengthsIn.T7.2 laws_FnExactStrengthsIn.B7 = true := by kernel_rfl
def laws_FnExactStrengthsIn.T24 : Bool × List (List Nat × List Nat) := (true, [([], []), ([0], [0]), ([], []), ([2, 1], [2]), ([], []), ([4, 3], [4]), ([1, 3, 5, 5], [1, 3, 5]), ([6], [6]), ([7], [7]), ([7], [7]), ([8, 6, 0, 1, 2, 3, 4, 5, 6, 7, 8], [8]), ([9, 10, 0, 1, 2, 3, 4, 5, 6, 7, 8, 9, 10], [9])])
def laws_FnExactStrengthsIn.B24 : List Nat := [0, 1, 0, 7, 0, 31, 63, 127, 255, 255, 511, 2047]
theorem laws_FnExactStrengthsIn.tab24 : rtab .any (opsOf Try.f11 24) = laws_FnExactStrengthsIn.T24 := by kernel_rfl
theorem laws_FnExactStrengthsIn.bits24 : waitsOk laws_FnExactStrengthsIn.T24.2 laws_FnExactStrengthsIn.B24 = true := by kernel_rfl
set_option maxHeartbeats 8000000 in
set_option maxRecDepth 100000 in
theorem laws_FnExactStrengthsIn.calls (k : Nat) (a0_0 : Int) (a0_1 : Int) (a0_2 : Int) (a0_3 : Int) (a1_0 : Int) (a1_1 : Int) (a1_2 : Int) (A2 : Option Addr) (c2 : Nat) (l2 : List (S163)) (r : Bool) (w : World) (hr2 : Kd.C k163 w A2 l2.length l2) (hc2 : l2.length ≤ c2) (h : laws_FnExactStrengthsIn.f k a0_0 a0_1 a0_2 a0_3 a1_0 a1_1 a1_2 l2 = some r) (hT_ : Aside0 (r = true)) :
    Calls Try.prog 11 #[.agg #[.int .i64 a0_0, .int .i64 a0_1, .int .i8 a0_2, .int .i8 a0_3], .agg #[.int .i64 a1_0, .int .i64 a1_1, .int .i64 a1_2], .slice A2 l2.length c2] w fun e w' => e = .returned (.bool r) ∧ Below w.heap.size w w' := by
  have hu92 := Try.underlying92
  have hu93 := Try.underlying93
  have HR2 := Aside0.mk hr2
  have HC2 := Aside0.mk hc2
  clear hr2 hc2
  have HB := Aside0.mk (Below.refl w.heap.size w)
  have H : ((laws_szActS.f l2 1048576).bind fun t860 => (if t860 < 0 then (some true) else ((laws_toDeveloper.f a0_0 a0_1 a0_2 a0_3).bind fun bt861 => ((laws_toBath.f a1_0 a1_1 a1_2).bind fun bt865 => ((laws_toActS.f k l2).bind fun t868 => ((spec_StrengthsIn.f k bt861.1 bt861.2.1 bt861.2.2.1 bt861.2.2.2 bt865.1 bt865.2.1 bt865.2.2 t868).bind fun bt871 => ((laws_toActS.f k l2).bind fun t875 => ((laws_toDeveloper.f a0_0 a0_1 a0_2 a0_3).bind fun bt878 => ((laws_toBath.f a1_0 a1_1 a1_2).bind fun bt882 => ((impl_StrengthsIn.f k bt878.1 bt878.2.1 bt878.2.2.1 bt878.2.2.2 bt882.1 bt882.2.1 bt882.2.2 t875).bind fun bt885 => ((laws_eqInt64S.f k bt885.1 bt871.1).bind fun t889 => (if t889 = true then (laws_FnExactStrengthsIn.j0 k l2 bt871.1 bt871.2 t875 bt885.1 bt885.2 (bt885.2 != bt871.2) a0_0 a0_1 a0_2 a0_3 a1_0 a1_1 a1_2) else (laws_FnExactStrengthsIn.j0 k l2 bt871.1 bt871.2 t875 bt885.1 bt885.2 true a0_0 a0_1 a0_2 a0_3 a1_0 a1_1 a1_2))))))))))))) = some r := h
  clear h
  replace H := Option.bind_eq_some_iff.mp H
  obtain ⟨t860, A40, H⟩ := H
  replace H : (if t860 < 0 then (some true) else ((laws_toDeveloper.f a0_0 a0_1 a0_2 a0_3).bind fun bt861 => ((laws_toBath.f a1_0 a1_1 a1_2).bind fun bt865 => ((laws_toActS.f k l2).bind fun t868 => ((spec_StrengthsIn.f k bt861.1 bt861.2.1 bt861.2.2.1 bt861.2.2.2 bt865.1 bt865.2.1 bt865.2.2 t868).bind fun bt871 => ((laws_toActS.f k l2).bind fun t875 => ((laws_toDeveloper.f a0_0 a0_1 a0_2 a0_3).bind fun bt878 => ((laws_toBath.f a1_0 a1_1 a1_2).bind fun bt882 => ((impl_StrengthsIn.f k bt878.1 bt878.2.1 bt878.2.2.1 bt878.2.2.2 bt882.1 bt882.2.1 bt882.2.2 t875).bind fun bt885 => ((laws_eqInt64S.f k bt885.1 bt871.1).bind fun t889 => (if t889 = true then (laws_FnExactStrengthsIn.j0 k l2 bt871.1 bt871.2 t875 bt885.1 bt885.2 (bt885.2 != bt871.2) a0_0 a0_1 a0_2 a0_3 a1_0 a1_1 a1_2) else (laws_FnExactStrengthsIn.j0 k l2 bt871.1 bt871.2 t875 bt885.1 bt885.2 true a0_0 a0_1 a0_2 a0_3 a1_0 a1_1 a1_2)))))))))))) = some r := H
  have A4 := Aside0.mk A40
  clear A40
  by_cases c5 : t860 < 0
  · rw [if_pos c5] at H
    have c5b0 : decide (t860 < 0) = true := decide_eq_true c5
    clear c5
    obtain rfl := Option.some.inj H
    go_enter Try.func11, Try.ntmps11
    go_wp2_with (first | ((with_reducible refine gate_dst (N := 3) rfl ?_); refine box_event ?hg (N := 3) ?hd (cs := #[.int .i64 a0_0, .int .i64 a0_1, .int .i8 a0_2, .int .i8 a0_3]) (t := 92) ?hr ?_; (case hd => rfl); (case hg => rfl); (case hr => first | (go_simp; done) | (go_simp; rfl)); intro gb858 hg w6 hbox hb; have n0_ := Aside0.mk (below_step HB.out hb); have n1_ := Aside0.mk (hbox); have n2_ := Aside0.mk ((by rw [hg]; exact (below_size HB.out) : w.heap.size ≤ gb858)); have n3_ := Aside0.mk ((by rw [hg]; exact (below_size HB.out) : w.heap.size ≤ gb858)); clear HB; have HB := n0_; have BK858 := n1_; have GW858 := n2_; have GE858 := n3_; clear n0_ n1_ n2_ n3_; clear hb hbox hg) | ((with_reducible refine gate_dst (N := 4) rfl ?_); refine box_event ?hg (N := 4) ?hd (cs := #[.int .i64 a1_0, .int .i64 a1_1, .int .i64 a1_2]) (t := 93) ?hr ?_; (case hd => rfl); (case hg => rfl); (case hr => first | (go_simp; done) | (go_simp; rfl)); intro gb859 hg w7 hbox hb; have n0_ := Aside0.mk (blk_below BK858.out hb); have n1_ := Aside0.mk (below_step HB.out hb); have n2_ := Aside0.mk (hbox); have n3_ := Aside0.mk ((by rw [hg]; exact (below_size HB.out) : w.heap.size ≤ gb859)); have n4_ := Aside0.mk ((by rw [hg]; exact (below_size HB.out) : w.heap.size ≤ gb859)); have n5_ := Aside0.mk ((by rw [hg]; exact Nat.ne_of_lt (blk_lt BK858.out) : gb858 ≠ gb859)); have n6_ := Aside0.mk ((by rw [hg]; exact Nat.ne_of_gt (blk_lt BK858.out) : gb859 ≠ gb858)); clear BK858; clear HB; have BK858 := n0_; have HB := n1_; have BK859 := n2_; have GW859 := n3_; have GE859 := n4_; have NB858_859 := n5_; have NB859_858 := n6_; clear n0_ n1_ n2_ n3_ n4_ n5_ n6_; clear hb hbox hg) | ((with_reducible refine gate_callee (f := 69) rfl ?_); refine goesL_ (some 20) rfl rfl Try.func69 (by kernel_rfl) rfl #[.slice A2 l2.length c2, .int .i64 1048576] rfl (by (try simp only [List.map_toArray, List.map_cons, List.map_nil]); first | done | rfl | (simp only [List.length_drop, List.length_take]; rfl)) ?_; (with_reducible refine (laws_szActS.calls _ _ l2 1048576 t860 _ ?side1 ?side2 A4.out).mono ?_); (case side1 => repeat (first | exact (Kd.C_below HR2.out HB.out) | (with_reducible refine Kd.C_alloc ?_ _) | (with_reducible refine Kd.C_drewN ?_ _) | (with_reducible refine Kd.C_drew ?_))); (case side2 => exact HC2.out); rintro e w' ⟨rfl, ⟨nd, rfl⟩⟩; refine ⟨_, rfl, ?_⟩))
    go_ret
    exact ⟨by first | rfl | (simp [errW_none, errW_some] <;> rfl) | (simp [*, errW_none, errW_some] <;> rfl), by repeat (first | (with_reducible first | exact HB.out | apply below_alloc | apply pw_below_drewN | apply below_drew1 | refine below_set ?_ GE858.out | refine below_set ?_ GE859.out) | exact HB.out)⟩
  · rw [if_neg c5] at H
    have c5b0 : decide (t860 < 0) = false := decide_eq_false c5
    clear c5
    replace H := Option.bind_eq_some_iff.mp H
    obtain ⟨⟨t861, t862, t863, t864⟩, A80, H⟩ := H
    replace H : ((laws_toBath.f a1_0 a1_1 a1_2).bind fun bt865 => ((laws_toActS.f k l2).bind fun t868 => ((spec_StrengthsIn.f k t861 t862 t863 t864 bt865.1 bt865.2.1 bt865.2.2 t868).bind fun bt871 => ((laws_toActS.f k l2).bind fun t875 => ((laws_toDeveloper.f a0_0 a0_1 a0_2 a0_3).bind fun bt878 => ((laws_toBath.f a1_0 a1_1 a1_2).bind fun bt882 => ((impl_StrengthsIn.f k bt878.1 bt878.2.1 bt878.2.2.1 bt878.2.2.2 bt882.1 bt882.2.1 bt882.2.2 t875).bind fun bt885 => ((laws_eqInt64S.f k bt885.1 bt871.1).bind fun t889 => (if t889 = true then (laws_FnExactStrengthsIn.j0 k l2 bt871.1 bt871.2 t875 bt885.1 bt885.2 (bt885.2 != bt871.2) a0_0 a0_1 a0_2 a0_3 a1_0 a1_1 a1_2) else (laws_FnExactStrengthsIn.j0 k l2 bt871.1 bt871.2 t875 bt885.1 bt885.2 true a0_0 a0_1 a0_2 a0_3 a1_0 a1_1 a1_2)))))))))) = some r := H
    have A8 := Aside0.mk A80
    clear A80
    replace H := Option.bind_eq_some_iff.mp H
    obtain ⟨⟨t865, t866, t867⟩, A90, H⟩ := H
    replace H : ((laws_toActS.f k l2).bind fun t868 => ((spec_StrengthsIn.f k t861 t862 t863 t864 t865 t866 t867 t868).bind fun bt871 => ((laws_toActS.f k l2).bind fun t875 => ((laws_toDeveloper.f a0_0 a0_1 a0_2 a0_3).bind fun bt878 => ((laws_toBath.f a1_0 a1_1 a1_2).bind fun bt882 => ((impl_StrengthsIn.f k bt878.1 bt878.2.1 bt878.2.2.1 bt878.2.2.2 bt882.1 bt882.2.1 bt882.2.2 t875).bind fun bt885 => ((laws_eqInt64S.f k bt885.1 bt871.1).bind fun t889 => (if t889 = true then (laws_FnExactStrengthsIn.j0 k l2 bt871.1 bt871.2 t875 bt885.1 bt885.2 (bt885.2 != bt871.2) a0_0 a0_1 a0_2 a0_3 a1_0 a1_1 a1_2) else (laws_FnExactStrengthsIn.j0 k l2 bt871.1 bt871.2 t875 bt885.1 bt885.2 true a0_0 a0_1 a0_2 a0_3 a1_0 a1_1 a1_2))))))))) = some r := H
    have A9 := Aside0.mk A90
    clear A90
    replace H := Option.bind_eq_some_iff.mp H
    obtain ⟨t868, A100, H⟩ := H
    replace H : ((spec_StrengthsIn.f k t861 t862 t863 t864 t865 t866 t867 t868).bind fun bt871 => ((laws_toActS.f k l2).bind fun t875 => ((laws_toDeveloper.f a0_0 a0_1 a0_2 a0_3).bind fun bt878 => ((laws_toBath.f a1_0 a1_1 a1_2).bind fun bt882 => ((impl_StrengthsIn.f k bt878.1 bt878.2.1 bt878.2.2.1 bt878.2.2.2 bt882.1 bt882.2.1 bt882.2.2 t875).bind fun bt885 => ((laws_eqInt64S.f k bt885.1 bt871.1).bind fun t889 => (if t889 = true then (laws_FnExactStrengthsIn.j0 k l2 bt871.1 bt871.2 t875 bt885.1 bt885.2 (bt885.2 != bt871.2) a0_0 a0_1 a0_2 a0_3 a1_0 a1_1 a1_2) else (laws_FnExactStrengthsIn.j0 k l2 bt871.1 bt871.2 t875 bt885.1 bt885.2 true a0_0 a0_1 a0_2 a0_3 a1_0 a1_1 a1_2)))))))) = some r := H
    have A10 := Aside0.mk A100
    clear A100
    replace H := Option.bind_eq_some_iff.mp H
    obtain ⟨⟨t871, t874⟩, A110, H⟩ := H
    replace H : ((laws_toActS.f k l2).bind fun t875 => ((laws_toDeveloper.f a0_0 a0_1 a0_2 a0_3).bind fun bt878 => ((laws_toBath.f a1_0 a1_1 a1_2).bind fun bt882 => ((impl_StrengthsIn.f k bt878.1 bt878.2.1 bt878.2.2.1 bt878.2.2.2 bt882.1 bt882.2.1 bt882.2.2 t875).bind fun bt885 => ((laws_eqInt64S.f k bt885.1 t871).bind fun t889 => (if t889 = true then (laws_FnExactStrengthsIn.j0 k l2 t871 t874 t875 bt885.1 bt885.2 (bt885.2 != t874) a0_0 a0_1 a0_2 a0_3 a1_0 a1_1 a1_2) else (laws_FnExactStrengthsIn.j0 k l2 t871 t874 t875 bt885.1 bt885.2 true a0_0 a0_1 a0_2 a0_3 a1_0 a1_1 a1_2))))))) = some r := H
    have A11 := Aside0.mk A110
    clear A110
    replace H := Option.bind_eq_some_iff.mp H
    obtain ⟨t875, A120, H⟩ := H
    replace H : ((laws_toDeveloper.f a0_0 a0_1 a0_2 a0_3).bind fun bt878 => ((laws_toBath.f a1_0 a1_1 a1_2).bind fun bt882 => ((impl_StrengthsIn.f k bt878.1 bt878.2.1 bt878.2.2.1 bt878.2.2.2 bt882.1 bt882.2.1 bt882.2.2 t875).bind fun bt885 => ((laws_eqInt64S.f k bt885.1 t871).bind fun t889 => (if t889 = true then (laws_FnExactStrengthsIn.j0 k l2 t871 t874 t875 bt885.1 bt885.2 (bt885.2 != t874) a0_0 a0_1 a0_2 a0_3 a1_0 a1_1 a1_2) else (laws_FnExactStrengthsIn.j0 k l2 t871 t874 t875 bt885.1 bt885.2 true a0_0 a0_1 a0_2 a0_3 a1_0 a1_1 a1_2)))))) = some r := H
    have A12 := Aside0.mk A120
    clear A120
    replace H := Option.bind_eq_some_iff.mp H
    obtain ⟨⟨t878, t879, t880, t881⟩, A130, H⟩ := H
    replace H : ((laws_toBath.f a1_0 a1_1 a1_2).bind fun bt882 => ((impl_StrengthsIn.f k t878 t879 t880 t881 bt882.1 bt882.2.1 bt882.2.2 t875).bind fun bt885 => ((laws_eqInt64S.f k bt885.1 t871).bind fun t889 => (if t889 = true then (laws_FnExactStrengthsIn.j0 k l2 t871 t874 t875 bt885.1 bt885.2 (bt885.2 != t874) a0_0 a0_1 a0_2 a0_3 a1_0 a1_1 a1_2) else (laws_FnExactStrengthsIn.j0 k l2 t871 t874 t875 bt885.1 bt885.2 true a0_0 a0_1 a0_2 a0_3 a1_0 a1_1 a1_2))))) = some r := H
    have A13 := Aside0.mk A130
    clear A130
    replace H := Option.bind_eq_some_iff.mp H
    obtain ⟨⟨t882, t883, t884⟩, A140, H⟩ := H
    replace H : ((impl_StrengthsIn.f k t878 t879 t880 t881 t882 t883 t884 t875).bind fun bt885 => ((laws_eqInt64S.f k bt885.1 t871).bind fun t889 => (if t889 = true then (laws_FnExactStrengthsIn.j0 k l2 t871 t874 t875 bt885.1 bt885.2 (bt885.2 != t874) a0_0 a0_1 a0_2 a0_3 a1_0 a1_1 a1_2) else (laws_FnExactStrengthsIn.j0 k l2 t871 t874 t875 bt885.1 bt885.2 true a0_0 a0_1 a0_2 a0_3 a1_0 a1_1 a1_2)))) = some r := H
    have A14 := Aside0.mk A140
    clear A140
    replace H := Option.bind_eq_some_iff.mp H
    obtain ⟨⟨t885, t888⟩, A150, H⟩ := H
    replace H : ((laws_eqInt64S.f k t885 t871).bind fun t889 => (if t889 = true then (laws_FnExactStrengthsIn.j0 k l2 t871 t874 t875 t885 t888 (t888 != t874) a0_0 a0_1 a0_2 a0_3 a1_0 a1_1 a1_2) else (laws_FnExactStrengthsIn.j0 k l2 t871 t874 t875 t885 t888 true a0_0 a0_1 a0_2 a0_3 a1_0 a1_1 a1_2))) = some r := H
    have A15 := Aside0.mk A150
    clear A150
    have HC16 := Aside0.mk H
    clear H
    go_enter Try.func11, Try.ntmps11
    try go_wp2_with (first | ((with_reducible refine gate_dst (N := 3) rfl ?_); refine box_event ?hg (N := 3) ?hd (cs := #[.int .i64 a0_0, .int .i64 a0_1, .int .i8 a0_2, .int .i8 a0_3]) (t := 92) ?hr ?_; (case hd => rfl); (case hg => rfl); (case hr => first | (go_simp; done) | (go_simp; rfl)); intro gb858 hg w17 hbox hb; have n0_ := Aside0.mk (below_step HB.out hb); have n1_ := Aside0.mk (hbox); have n2_ := Aside0.mk ((by rw [hg]; exact (below_size HB.out) : w.heap.size ≤ gb858)); have n3_ := Aside0.mk ((by rw [hg]; exact (below_size HB.out) : w.heap.size ≤ gb858)); clear HB; have HB := n0_; have BK858 := n1_; have GW858 := n2_; have GE858 := n3_; clear n0_ n1_ n2_ n3_; clear hb hbox hg) | ((with_reducible refine gate_dst (N := 4) rfl ?_); refine box_event ?hg (N := 4) ?hd (cs := #[.int .i64 a1_0, .int .i64 a1_1, .int .i64 a1_2]) (t := 93) ?hr ?_; (case hd => rfl); (case hg => rfl); (case hr => first | (go_simp; done) | (go_simp; rfl)); intro gb859 hg w18 hbox hb; have n0_ := Aside0.mk (blk_below BK858.out hb); have n1_ := Aside0.mk (below_step HB.out hb); have n2_ := Aside0.mk (hbox); have n3_ := Aside0.mk ((by rw [hg]; exact (below_size HB.out) : w.heap.size ≤ gb859)); have n4_ := Aside0.mk ((by rw [hg]; exact (below_size HB.out) : w.heap.size ≤ gb859)); have n5_ := Aside0.mk ((by rw [hg]; exact Nat.ne_of_lt (blk_lt BK858.out) : gb858 ≠ gb859)); have n6_ := Aside0.mk ((by rw [hg]; exact Nat.ne_of_gt (blk_lt BK858.out) : gb859 ≠ gb858)); clear BK858; clear HB; have BK858 := n0_; have HB := n1_; have BK859 := n2_; have GW859 := n3_; have GE859 := n4_; have NB858_859 := n5_; have NB859_858 := n6_; clear n0_ n1_ n2_ n3_ n4_ n5_ n6_; clear hb hbox hg) | ((with_reducible refine gate_callee (f := 69) rfl ?_); refine goesL_ (some 20) rfl rfl Try.func69 (by kernel_rfl) rfl #[.slice A2 l2.length c2, .int .i64 1048576] rfl (by (try simp only [List.map_toArray, List.map_cons, List.map_nil]); first | done | rfl | (simp only [List.length_drop, List.length_take]; rfl)) ?_; (with_reducible refine (laws_szActS.calls _ _ l2 1048576 t860 _ ?side1 ?side2 A4.out).mono ?_); (case side1 => repeat (first | exact (Kd.C_below HR2.out HB.out) | (with_reducible refine Kd.C_alloc ?_ _) | (with_reducible refine Kd.C_drewN ?_ _) | (with_reducible refine Kd.C_drew ?_))); (case side2 => exact HC2.out); rintro e w' ⟨rfl, ⟨nd, rfl⟩⟩; refine ⟨_, rfl, ?_⟩))
    (try (rw [drewN_self w18]; generalize hq_ : World.drewN w18 _ = w18; have n0_ : Aside0 (w18.heap[gb858]? = some (.cells #[.int .i64 a0_0, .int .i64 a0_1, .int .i8 a0_2, .int .i8 a0_3] 92 (0, 0))) := ⟨by rw [← hq_]; exact (by (with_reducible repeat (first | refine blk_drewN ?_ _ | refine blk_drew ?_ | refine blk_alloc ?_ _)); exact BK858.out)⟩; have n1_ : Aside0 (w18.heap[gb859]? = some (.cells #[.int .i64 a1_0, .int .i64 a1_1, .int .i64 a1_2] 93 (0, 0))) := ⟨by rw [← hq_]; exact (by (with_reducible repeat (first | refine blk_drewN ?_ _ | refine blk_drew ?_ | refine blk_alloc ?_ _)); exact BK859.out)⟩; have n2_ : Aside0 (Below w.heap.size w w18) := ⟨by rw [← hq_]; exact (by repeat (first | (with_reducible first | exact HB.out | apply below_alloc | apply pw_below_drewN | apply below_drew1 | refine below_set ?_ GE858.out | refine below_set ?_ GE859.out) | exact HB.out))⟩; clear BK858 BK859 HB hq_; have BK858 := n0_; have BK859 := n1_; have HB := n2_; clear n0_ n1_ n2_; have hcR858_0 : w18.cell? ⟨gb858, 0, none⟩ = some (.int .i64 a0_0) := (blk_cell BK858.out 0).trans rfl; have hfR858_0 := blk_frozen BK858.out 0; have hcR858_1 : w18.cell? ⟨gb858, 1, none⟩ = some (.int .i64 a0_1) := (blk_cell BK858.out 1).trans rfl; have hfR858_1 := blk_frozen BK858.out 1; have hcR858_2 : w18.cell? ⟨gb858, 2, none⟩ = some (.int .i8 a0_2) := (blk_cell BK858.out 2).trans rfl; have hfR858_2 := blk_frozen BK858.out 2; have hcR858_3 : w18.cell? ⟨gb858, 3, none⟩ = some (.int .i8 a0_3) := (blk_cell BK858.out 3).trans rfl; have hfR858_3 := blk_frozen BK858.out 3; have hcR859_0 : w18.cell? ⟨gb859, 0, none⟩ = some (.int .i64 a1_0) := (blk_cell BK859.out 0).trans rfl; have hfR859_0 := blk_frozen BK859.out 0; have hcR859_1 : w18.cell? ⟨gb859, 1, none⟩ = some (.int .i64 a1_1) := (blk_cell BK859.out 1).trans rfl; have hfR859_1 := blk_frozen BK859.out 1; have hcR859_2 : w18.cell? ⟨gb859, 2, none⟩ = some (.int .i64 a1_2) := (blk_cell BK859.out 2).trans rfl; have hfR859_2 := blk_frozen BK859.out 2))
    have n0_ := Aside0.mk (blk_drew BK858.out)
    have n1_ := Aside0.mk (blk_drew BK859.out)
    have n2_ := Aside0.mk (below_drew1 HB.out)
    clear BK858
    clear BK859
    clear HB
    have BK858 := n0_
    have BK859 := n1_
    have HB := n2_
    clear n0_ n1_ n2_
    refine start_ (n := 12) (S := fun w' => w'.cell? ⟨gb858, 0, none⟩ = some (.int .i64 a0_0) ∧ w'.cell? ⟨gb858, 1, none⟩ = some (.int .i64 a0_1) ∧ w'.cell? ⟨gb858, 2, none⟩ = some (.int .i8 a0_2) ∧ w'.cell? ⟨gb858, 3, none⟩ = some (.int .i8 a0_3) ∧ w'.cell? ⟨gb859, 0, none⟩ = some (.int .i64 a1_0) ∧ w'.cell? ⟨gb859, 1, none⟩ = some (.int .i64 a1_1) ∧ w'.cell? ⟨gb859, 2, none⟩ = some (.int .i64 a1_2)) (ds := []) #[false, false, false, false, false, false, false, false, false, false, false, false] (by kernel_rfl) rfl rfl ⟨(blk_cell BK858.out 0).trans rfl, (blk_cell BK858.out 1).trans rfl, (blk_cell BK858.out 2).trans rfl, (blk_cell BK858.out 3).trans rfl, (blk_cell BK859.out 0).trans rfl, (blk_cell BK859.out 1).trans rfl, (blk_cell BK859.out 2).trans rfl⟩ (fun hHeld => ?_); refine with_tabW laws_FnExactStrengthsIn.tab5 laws_FnExactStrengthsIn.bits5 (fun HT_ HW_ => ?_)
    generalize w18.drew = w19 at BK858 BK859 HB hHeld ⊢
    refine pure_ (i := 4) (N := some 28) (v := ?_) (a' := ?_) #[false, false, false, false, true, false, false, false, false, false, false, false] rfl rfl (any_of HT_.out (by kernel_rfl)) (fun _ _ _ h => h) (Or.inl ⟨by rfl, ?_⟩) ?_ ?_
    rotate_left
    · intro w'
      go_simp
      with_reducible rfl
    rotate_left
    · simp only [Act.put, List.setIfInBounds_toArray, List.set_cons_zero, List.set_cons_succ, i64_w, i32_w]
      rfl
    refine take_ (i := 0) (N := some 24) (v := ?_) (a' := ?_) #[true, false, false, false, true, false, false, false, false, false, false, false] rfl rfl (take_ofW HT_.out HW_.out (by kernel_rfl)) (fun _ _ _ h => h) (Or.inl ⟨by rfl, ?_⟩) hHeld ?_ ?_
    rotate_left
    · rintro w' ⟨s0, s1, s2, s3, s4, s5, s6⟩
      go_simp
      with_reducible rfl
    rotate_left
    · simp only [Act.put, List.setIfInBounds_toArray, List.set_cons_zero, List.set_cons_succ, i64_w, i32_w]
      rfl
    refine take_ (i := 2) (N := some 26) (v := ?_) (a' := ?_) #[true, false, true, false, true, false, false, false, false, false, false, false] rfl rfl (take_ofW HT_.out HW_.out (by kernel_rfl)) (fun _ _ _ h => h) (Or.inl ⟨by rfl, ?_⟩) hHeld ?_ ?_
    rotate_left
    · rintro w' ⟨s0, s1, s2, s3, s4, s5, s6⟩
      go_simp
      with_reducible rfl
    rotate_left
    · simp only [Act.put, List.setIfInBounds_toArray, List.set_cons_zero, List.set_cons_succ, i64_w, i32_w]
      rfl
    refine one_ (i := 1) (N := some 25) #[true, true, true, false, true, false, false, false, false, false, false, false] rfl rfl (one_of HT_.out (by kernel_rfl)) (by decide) (fun K hK => ?_)
    refine goes_ Try.func71 (by kernel_rfl) rfl #[.agg #[.int .i64 a0_0, .int .i64 a0_1, .int .i8 a0_2, .int .i8 a0_3]] (by rfl) rfl rfl (by (try simp only [List.map_toArray, List.map_cons, List.map_nil]); first | done | rfl | (simp only [List.length_drop, List.length_take]; rfl)) ?_
    with_reducible refine (laws_toDeveloper.calls a0_0 a0_1 a0_2 a0_3 t861 t862 t863 t864 _ A8.out).mono ?_
    rintro e w20 ⟨rfl, hb⟩
    refine ⟨_, rfl, ?_⟩
    have n0_ := Aside0.mk (blk_below (g := gb858) (o := .cells #[.int .i64 a0_0, .int .i64 a0_1, .int .i8 a0_2, .int .i8 a0_3] 92 (0, 0)) (by (with_reducible repeat (first | refine blk_drewN ?_ _ | refine blk_drew ?_ | refine blk_alloc ?_ _)); exact BK858.out) hb)
    have n1_ := Aside0.mk (blk_below BK859.out hb)
    have n2_ := Aside0.mk (below_step HB.out hb)
    clear BK858
    clear BK859
    clear HB
    have BK858 := n0_
    have BK859 := n1_
    have HB := n2_
    clear n0_ n1_ n2_
    (try clear hb)
    (try clear hb2)
    (try clear hk)
    (try clear hi)
    refine hK.out _ _ ⟨(blk_cell BK858.out 0).trans rfl, (blk_cell BK858.out 1).trans rfl, (blk_cell BK858.out 2).trans rfl, (blk_cell BK858.out 3).trans rfl, (blk_cell BK859.out 0).trans rfl, (blk_cell BK859.out 1).trans rfl, (blk_cell BK859.out 2).trans rfl⟩ (fun hHeld => ?_)
    clear hK K
    refine norm_ (a' := ?_) ?_ ?_
    rotate_left
    · show Act.put _ (some 25) _ = _
      simp only [Act.put, List.setIfInBounds_toArray, List.set_cons_zero, List.set_cons_succ, i64_w, i32_w]
      rfl
    refine one_ (i := 3) (N := some 27) #[true, true, true, true, true, false, false, false, false, false, false, false] rfl rfl (one_of HT_.out (by kernel_rfl)) (by decide) (fun K hK => ?_)
    refine goes_ Try.func72 (by kernel_rfl) rfl #[.agg #[.int .i64 a1_0, .int .i64 a1_1, .int .i64 a1_2]] (by rfl) rfl rfl (by (try simp only [List.map_toArray, List.map_cons, List.map_nil]); first | done | rfl | (simp only [List.length_drop, List.length_take]; rfl)) ?_
    with_reducible refine (laws_toBath.calls a1_0 a1_1 a1_2 t865 t866 t867 _ A9.out).mono ?_
    rintro e w21 ⟨rfl, hb⟩
    refine ⟨_, rfl, ?_⟩
    have n0_ := Aside0.mk (blk_below (g := gb858) (o := .cells #[.int .i64 a0_0, .int .i64 a0_1, .int .i8 a0_2, .int .i8 a0_3] 92 (0, 0)) (by (with_reducible repeat (first | refine blk_drewN ?_ _ | refine blk_drew ?_ | refine blk_alloc ?_ _)); exact BK858.out) hb)
    have n1_ := Aside0.mk (blk_below BK859.out hb)
    have n2_ := Aside0.mk (below_step HB.out hb)
    clear BK858
    clear BK859
    clear HB
    have BK858 := n0_
    have BK859 := n1_
    have HB := n2_
    clear n0_ n1_ n2_
    (try clear hb)
    (try clear hb2)
    (try clear hk)
    (try clear hi)
    refine hK.out _ _ ⟨(blk_cell BK858.out 0).trans rfl, (blk_cell BK858.out 1).trans rfl, (blk_cell BK858.out 2).trans rfl, (blk_cell BK858.out 3).trans rfl, (blk_cell BK859.out 0).trans rfl, (blk_cell BK859.out 1).trans rfl, (blk_cell BK859.out 2).trans rfl⟩ (fun hHeld => ?_)
    clear hK K
    refine norm_ (a' := ?_) ?_ ?_
    rotate_left
    · show Act.put _ (some 27) _ = _
      simp only [Act.put, List.setIfInBounds_toArray, List.set_cons_zero, List.set_cons_succ, i64_w, i32_w]
      rfl
    refine one_ (i := 5) (N := some 29) #[true, true, true, true, true, true, false, false, false, false, false, false] rfl rfl (one_of HT_.out (by kernel_rfl)) (by decide) (fun K hK => ?_)
    refine goes_ Try.func73 (by kernel_rfl) rfl #[.slice A2 l2.length c2] (by rfl) rfl rfl (by (try simp only [List.map_toArray, List.map_cons, List.map_nil]); first | done | rfl | (simp only [List.length_drop, List.length_take]; rfl)) ?_
    with_reducible refine (laws_toActS.calls k _ _ l2 t868 _ ?side1 ?side2 A10.out).mono ?_
    (case side1 => repeat (first | exact (Kd.C_below HR2.out HB.out) | (with_reducible refine Kd.C_alloc ?_ _) | (with_reducible refine Kd.C_drewN ?_ _) | (with_reducible refine Kd.C_drew ?_)))
    (case side2 => exact HC2.out)
    rintro e w22 ⟨v869, rfl, ho0, hb⟩
    refine ⟨_, rfl, ?_⟩
    have n0_ := Aside0.mk (Kd.R_lower ho0 (below_size HB.out))
    have n1_ := Aside0.mk (blk_below BK858.out hb)
    have n2_ := Aside0.mk (blk_below BK859.out hb)
    have n3_ := Aside0.mk (below_step HB.out hb)
    clear BK858
    clear BK859
    clear HB
    have HO870 := n0_
    have BK858 := n1_
    have BK859 := n2_
    have HB := n3_
    clear n0_ n1_ n2_ n3_
    (try clear hb)
    (try clear hb2)
    (try clear hk)
    (try clear hi)
    (try clear ho0)
    obtain ⟨Ao23, co23, eo23⟩ := Kd.R_slice HO870.out
    (first | subst eo23 | (injection eo23 with f1_ f2_ f3_; have f4_ := f1_.symm; have f5_ := f3_.symm; clear f1_ f2_ f3_; subst f4_; subst f5_))
    refine hK.out _ _ ⟨(blk_cell BK858.out 0).trans rfl, (blk_cell BK858.out 1).trans rfl, (blk_cell BK858.out 2).trans rfl, (blk_cell BK858.out 3).trans rfl, (blk_cell BK859.out 0).trans rfl, (blk_cell BK859.out 1).trans rfl, (blk_cell BK859.out 2).trans rfl⟩ (fun hHeld => ?_)
    clear hK K
    refine norm_ (a' := ?_) ?_ ?_
    rotate_left
    · show Act.put _ (some 29) _ = _
      simp only [Act.put, List.setIfInBounds_toArray, List.set_cons_zero, List.set_cons_succ, i64_w, i32_w]
      rfl
    refine one_ (i := 6) (N := some 30) #[true, true, true, true, true, true, true, false, false, false, false, false] rfl rfl (one_of HT_.out (by kernel_rfl)) (by decide) (fun K hK => ?_)
    refine goes_ Try.func79 (by kernel_rfl) rfl #[.agg #[.int .i64 t861, .int .i64 t862, .int .i8 t863, .int .i8 t864], .agg #[.int .i64 t865, .int .i64 t866, .int .i64 t867], .slice Ao23 t868.length co23] (by rfl) rfl rfl (by (try simp only [List.map_toArray, List.map_cons, List.map_nil]); first | done | rfl | (simp only [List.length_drop, List.length_take]; rfl)) ?_
    with_reducible refine (spec_StrengthsIn.calls k t861 t862 t863 t864 t865 t866 t867 _ _ t868 t871 t874 _ ?side1 ?side2 A11.out).mono ?_
    (case side1 => repeat (first | exact (Kd.R_reads' HO870.out).2.2 | (with_reducible refine Kd.C_alloc ?_ _) | (with_reducible refine Kd.C_drewN ?_ _) | (with_reducible refine Kd.C_drew ?_)))
    (case side2 => exact (Kd.R_reads' HO870.out).2.1)
    rintro e w24 ⟨v872, rfl, ho0, hb⟩
    refine ⟨_, rfl, ?_⟩
    have n0_ := Aside0.mk (Kd.R_below HO870.out hb)
    have n1_ := Aside0.mk (Kd.R_lower ho0 (below_size HB.out))
    have n2_ := Aside0.mk (blk_below BK858.out hb)
    have n3_ := Aside0.mk (blk_below BK859.out hb)
    have n4_ := Aside0.mk (below_step HB.out hb)
    clear HO870
    clear BK858
    clear BK859
    clear HB
    have HO870 := n0_
    have HO873 := n1_
    have BK858 := n2_
    have BK859 := n3_
    have HB := n4_
    clear n0_ n1_ n2_ n3_ n4_
    (try clear hb)
    (try clear hb2)
    (try clear hk)
    (try clear hi)
    (try clear ho0)
    refine hK.out _ _ ⟨(blk_cell BK858.out 0).trans rfl, (blk_cell BK858.out 1).trans rfl, (blk_cell BK858.out 2).trans rfl, (blk_cell BK858.out 3).trans rfl, (blk_cell BK859.out 0).trans rfl, (blk_cell BK859.out 1).trans rfl, (blk_cell BK859.out 2).trans rfl⟩ (fun hHeld => ?_)
    clear hK K
    refine norm_ (a' := ?_) ?_ ?_
    rotate_left
    · show Act.put _ (some 30) _ = _
      simp only [Act.put, List.setIfInBounds_toArray, List.set_cons_zero, List.set_cons_succ, i64_w, i32_w]
      rfl
    refine pure_ (i := 7) (N := some 23) (v := ?_) (a' := ?_) #[true, true, true, true, true, true, true, true, false, false, false, false] rfl rfl (any_of HT_.out (by kernel_rfl)) (fun _ _ _ h => h) (Or.inl ⟨by rfl, ?_⟩) ?_ ?_
    rotate_left
    · intro w'
      go_simp
      with_reducible rfl
    rotate_left
    · simp only [Act.put, List.setIfInBounds_toArray, List.set_cons_zero, List.set_cons_succ, i64_w, i32_w]
      rfl
    refine pure_ (i := 8) (N := some 31) (v := ?_) (a' := ?_) #[true, true, true, true, true, true, true, true, true, false, false, false] rfl rfl (any_of HT_.out (by kernel_rfl)) (fun _ _ _ h => h) (Or.inl ⟨by rfl, ?_⟩) ?_ ?_
    rotate_left
    · intro w'
      go_simp
      with_reducible rfl
    rotate_left
    · simp only [Act.put, List.setIfInBounds_toArray, List.set_cons_zero, List.set_cons_succ, i64_w, i32_w]
      rfl
    refine pure_ (i := 9) (N := some 32) (v := ?_) (a' := ?_) #[true, true, true, true, true, true, true, true, true, true, false, false] rfl rfl (any_of HT_.out (by kernel_rfl)) (fun _ _ _ h => h) (Or.inl ⟨by rfl, ?_⟩) ?_ ?_
    rotate_left
    · intro w'
      go_simp
      with_reducible rfl
    rotate_left
    · simp only [Act.put, List.setIfInBounds_toArray, List.set_cons_zero, List.set_cons_succ, i64_w, i32_w]
      rfl
    refine pure_ (i := 10) (N := some 8) (v := ?_) (a' := ?_) #[true, true, true, true, true, true, true, true, true, true, true, false] rfl rfl (any_of HT_.out (by kernel_rfl)) (fun _ _ _ h => h) (Or.inl ⟨by rfl, ?_⟩) ?_ ?_
    rotate_left
    · intro w'
      go_simp
      with_reducible rfl
    rotate_left
    · simp only [Act.put, List.setIfInBounds_toArray, List.set_cons_zero, List.set_cons_succ, i64_w, i32_w]
      rfl
    refine pure_ (i := 11) (N := some 9) (v := ?_) (a' := ?_) #[true, true, true, true, true, true, true, true, true, true, true, true] rfl rfl (any_of HT_.out (by kernel_rfl)) (fun _ _ _ h => h) (Or.inl ⟨by rfl, ?_⟩) ?_ ?_
    rotate_left
    · intro w'
      go_simp
      with_reducible rfl
    rotate_left
    · simp only [Act.put, List.setIfInBounds_toArray, List.set_cons_zero, List.set_cons_succ, i64_w, i32_w]
      rfl
    refine done_ (done_of HT_.out (by kernel_rfl)) ?_
    try go_wp2_with (first | ((with_reducible refine gate_callee (f := 73) rfl ?_); refine goesL_ (some 34) rfl rfl Try.func73 (by kernel_rfl) rfl #[.slice A2 l2.length c2] rfl (by (try simp only [List.map_toArray, List.map_cons, List.map_nil]); first | done | rfl | (simp only [List.length_drop, List.length_take]; rfl)) ?_; (with_reducible refine (laws_toActS.calls k _ _ l2 t875 _ ?side1 ?side2 A12.out).mono ?_); (case side1 => repeat (first | exact (Kd.C_below HR2.out HB.out) | (with_reducible refine Kd.C_alloc ?_ _) | (with_reducible refine Kd.C_drewN ?_ _) | (with_reducible refine Kd.C_drew ?_))); (case side2 => exact HC2.out); rintro e w25 ⟨v876, rfl, ho0, hb⟩; refine ⟨_, rfl, ?_⟩; have n0_ := Aside0.mk (Kd.R_elder' HO870.out (Kd.R_base ho0) hb); have n1_ := Aside0.mk (Kd.R_below HO873.out hb); have n2_ := Aside0.mk (Kd.R_lower (Kd.R_new' ho0 (Kd.R_lt HO870.out)) (below_size HB.out)); have n3_ := Aside0.mk (blk_below BK858.out hb); have n4_ := Aside0.mk (blk_below BK859.out hb); have n5_ := Aside0.mk (below_step HB.out hb); clear HO870; clear HO873; clear BK858; clear BK859; clear HB; have HO870 := n0_; have HO873 := n1_; have HO877 := n2_; have BK858 := n3_; have BK859 := n4_; have HB := n5_; clear n0_ n1_ n2_ n3_ n4_ n5_; (try clear hb); (try clear hb2); (try clear hk); (try clear hi); (try clear ho0)))
    have n0_ := Aside0.mk (Kd.R_drew HO870.out)
    have n1_ := Aside0.mk (Kd.R_drew HO873.out)
    have n2_ := Aside0.mk (Kd.R_drew HO877.out)
    have n3_ := Aside0.mk (blk_drew BK858.out)
    have n4_ := Aside0.mk (blk_drew BK859.out)
    have n5_ := Aside0.mk (below_drew1 HB.out)
    clear HO870
    clear HO873
    clear HO877
    clear BK858
    clear BK859
    clear HB
    have HO870 := n0_
    have HO873 := n1_
    have HO877 := n2_
    have BK858 := n3_
    have BK859 := n4_
    have HB := n5_
    clear n0_ n1_ n2_ n3_ n4_ n5_
    refine start_ (n := 11) (S := fun w' => w'.cell? ⟨gb858, 0, none⟩ = some (.int .i64 a0_0) ∧ w'.cell? ⟨gb858, 1, none⟩ = some (.int .i64 a0_1) ∧ w'.cell? ⟨gb858, 2, none⟩ = some (.int .i8 a0_2) ∧ w'.cell? ⟨gb858, 3, none⟩ = some (.int .i8 a0_3) ∧ w'.cell? ⟨gb859, 0, none⟩ = some (.int .i64 a1_0) ∧ w'.cell? ⟨gb859, 1, none⟩ = some (.int .i64 a1_1) ∧ w'.cell? ⟨gb859, 2, none⟩ = some (.int .i64 a1_2)) (ds := []) #[false, false, false, false, false, false, false, false, false, false, false] (by kernel_rfl) rfl rfl ⟨(blk_cell BK858.out 0).trans rfl, (blk_cell BK858.out 1).trans rfl, (blk_cell BK858.out 2).trans rfl, (blk_cell BK858.out 3).trans rfl, (blk_cell BK859.out 0).trans rfl, (blk_cell BK859.out 1).trans rfl, (blk_cell BK859.out 2).trans rfl⟩ (fun hHeld => ?_); refine with_tabW laws_FnExactStrengthsIn.tab7 laws_FnExactStrengthsIn.bits7 (fun HT_ HW_ => ?_)
    generalize w25.drew = w26 at HO870 HO873 HO877 BK858 BK859 HB hHeld ⊢
    refine pure_ (i := 4) (N := some 40) (v := ?_) (a' := ?_) #[false, false, false, false, true, false, false, false, false, false, false] rfl rfl (any_of HT_.out (by kernel_rfl)) (fun _ _ _ h => h) (Or.inl ⟨by rfl, ?_⟩) ?_ ?_
    rotate_left
    · intro w'
      go_simp
      with_reducible rfl
    rotate_left
    · simp only [Act.put, List.setIfInBounds_toArray, List.set_cons_zero, List.set_cons_succ, i64_w, i32_w]
      rfl
    refine take_ (i := 0) (N := some 36) (v := ?_) (a' := ?_) #[true, false, false, false, true, false, false, false, false, false, false] rfl rfl (take_ofW HT_.out HW_.out (by kernel_rfl)) (fun _ _ _ h => h) (Or.inl ⟨by rfl, ?_⟩) hHeld ?_ ?_
    rotate_left
    · rintro w' ⟨s0, s1, s2, s3, s4, s5, s6⟩
      go_simp
      with_reducible rfl
    rotate_left
    · simp only [Act.put, List.setIfInBounds_toArray, List.set_cons_zero, List.set_cons_succ, i64_w, i32_w]
      rfl
    refine take_ (i := 2) (N := some 38) (v := ?_) (a' := ?_) #[true, false, true, false, true, false, false, false, false, false, false] rfl rfl (take_ofW HT_.out HW_.out (by kernel_rfl)) (fun _ _ _ h => h) (Or.inl ⟨by rfl, ?_⟩) hHeld ?_ ?_
    rotate_left
    · rintro w' ⟨s0, s1, s2, s3, s4, s5, s6⟩
      go_simp
      with_reducible rfl
    rotate_left
    · simp only [Act.put, List.setIfInBounds_toArray, List.set_cons_zero, List.set_cons_succ, i64_w, i32_w]
      rfl
    refine one_ (i := 1) (N := some 37) #[true, true, true, false, true, false, false, false, false, false, false] rfl rfl (one_of HT_.out (by kernel_rfl)) (by decide) (fun K hK => ?_)
    refine goes_ Try.func71 (by kernel_rfl) rfl #[.agg #[.int .i64 a0_0, .int .i64 a0_1, .int .i8 a0_2, .int .i8 a0_3]] (by rfl) rfl rfl (by (try simp only [List.map_toArray, List.map_cons, List.map_nil]); first | done | rfl | (simp only [List.length_drop, List.length_take]; rfl)) ?_
    with_reducible refine (laws_toDeveloper.calls a0_0 a0_1 a0_2 a0_3 t878 t879 t880 t881 _ A13.out).mono ?_
    rintro e w27 ⟨rfl, hb⟩
    refine ⟨_, rfl, ?_⟩
    have n0_ := Aside0.mk (Kd.R_below HO870.out hb)
    have n1_ := Aside0.mk (Kd.R_below HO873.out hb)
    have n2_ := Aside0.mk (Kd.R_below HO877.out hb)
    have n3_ := Aside0.mk (blk_below BK858.out hb)
    have n4_ := Aside0.mk (blk_below BK859.out hb)
    have n5_ := Aside0.mk (below_step HB.out hb)
    clear HO870
    clear HO873
    clear HO877
    clear BK858
    clear BK859
    clear HB
    have HO870 := n0_
    have HO873 := n1_
    have HO877 := n2_
    have BK858 := n3_
    have BK859 := n4_
    have HB := n5_
    clear n0_ n1_ n2_ n3_ n4_ n5_
    (try clear hb)
    (try clear hb2)
    (try clear hk)
    (try clear hi)
    refine hK.out _ _ ⟨(blk_cell BK858.out 0).trans rfl, (blk_cell BK858.out 1).trans rfl, (blk_cell BK858.out 2).trans rfl, (blk_cell BK858.out 3).trans rfl, (blk_cell BK859.out 0).trans rfl, (blk_cell BK859.out 1).trans rfl, (blk_cell BK859.out 2).trans rfl⟩ (fun hHeld => ?_)
    clear hK K
    refine norm_ (a' := ?_) ?_ ?_
    rotate_left
    · show Act.put _ (some 37) _ = _
      simp only [Act.put, List.setIfInBounds_toArray, List.set_cons_zero, List.set_cons_succ, i64_w, i32_w]
      rfl
    refine one_ (i := 3) (N := some 39) #[true, true, true, true, true, false, false, false, false, false, false] rfl rfl (one_of HT_.out (by kernel_rfl)) (by decide) (fun K hK => ?_)
    refine goes_ Try.func72 (by kernel_rfl) rfl #[.agg #[.int .i64 a1_0, .int .i64 a1_1, .int .i64 a1_2]] (by rfl) rfl rfl (by (try simp only [List.map_toArray, List.map_cons, List.map_nil]); first | done | rfl | (simp only [List.length_drop, List.length_take]; rfl)) ?_
    with_reducible refine (laws_toBath.calls a1_0 a1_1 a1_2 t882 t883 t884 _ A14.out).mono ?_
    rintro e w28 ⟨rfl, hb⟩
    refine ⟨_, rfl, ?_⟩
    have n0_ := Aside0.mk (Kd.R_below HO870.out hb)
    have n1_ := Aside0.mk (Kd.R_below HO873.out hb)
    have n2_ := Aside0.mk (Kd.R_below HO877.out hb)
    have n3_ := Aside0.mk (blk_below BK858.out hb)
    have n4_ := Aside0.mk (blk_below BK859.out hb)
    have n5_ := Aside0.mk (below_step HB.out hb)
    clear HO870
    clear HO873
    clear HO877
    clear BK858
    clear BK859
    clear HB
    have HO870 := n0_
    have HO873 := n1_
    have HO877 := n2_
    have BK858 := n3_
    have BK859 := n4_
    have HB := n5_
    clear n0_ n1_ n2_ n3_ n4_ n5_
    (try clear hb)
    (try clear hb2)
    (try clear hk)
    (try clear hi)
    obtain ⟨Ao29, co29, eo29⟩ := Kd.R_slice HO877.out
    (first | subst eo29 | (injection eo29 with f1_ f2_ f3_; have f4_ := f1_.symm; have f5_ := f3_.symm; clear f1_ f2_ f3_; subst f4_; subst f5_))
    refine hK.out _ _ ⟨(blk_cell BK858.out 0).trans rfl, (blk_cell BK858.out 1).trans rfl, (blk_cell BK858.out 2).trans rfl, (blk_cell BK858.out 3).trans rfl, (blk_cell BK859.out 0).trans rfl, (blk_cell BK859.out 1).trans rfl, (blk_cell BK859.out 2).trans rfl⟩ (fun hHeld => ?_)
    clear hK K
    refine norm_ (a' := ?_) ?_ ?_
    rotate_left
    · show Act.put _ (some 39) _ = _
      simp only [Act.put, List.setIfInBounds_toArray, List.set_cons_zero, List.set_cons_succ, i64_w, i32_w]
      rfl
    refine one_ (i := 5) (N := some 41) #[true, true, true, true, true, true, false, false, false, false, false] rfl rfl (one_of HT_.out (by kernel_rfl)) (by decide) (fun K hK => ?_)
    refine goes_ Try.func80 (by kernel_rfl) rfl #[.agg #[.int .i64 t878, .int .i64 t879, .int .i8 t880, .int .i8 t881], .agg #[.int .i64 t882, .int .i64 t883, .int .i64 t884], .slice Ao29 t875.length co29] (by rfl) rfl rfl (by (try simp only [List.map_toArray, List.map_cons, List.map_nil]); first | done | rfl | (simp only [List.length_drop, List.length_take]; rfl)) ?_
    with_reducible refine (impl_StrengthsIn.calls k t878 t879 t880 t881 t882 t883 t884 _ _ t875 t885 t888 _ ?side1 ?side2 A15.out).mono ?_
    (case side1 => repeat (first | exact (Kd.R_reads' HO877.out).2.2 | (with_reducible refine Kd.C_alloc ?_ _) | (with_reducible refine Kd.C_drewN ?_ _) | (with_reducible refine Kd.C_drew ?_)))
    (case side2 => exact (Kd.R_reads' HO877.out).2.1)
    rintro e w30 ⟨v886, rfl, ho0, hb⟩
    refine ⟨_, rfl, ?_⟩
    have n0_ := Aside0.mk (Kd.R_below HO870.out hb)
    have n1_ := Aside0.mk (Kd.R_elder' HO873.out (Kd.R_base ho0) hb)
    have n2_ := Aside0.mk (Kd.R_below HO877.out hb)
    have n3_ := Aside0.mk (Kd.R_lower (Kd.R_new' ho0 (Kd.R_lt HO873.out)) (below_size HB.out))
    have n4_ := Aside0.mk (blk_below BK858.out hb)
    have n5_ := Aside0.mk (blk_below BK859.out hb)
    have n6_ := Aside0.mk (below_step HB.out hb)
    clear HO870
    clear HO873
    clear HO877
    clear BK858
    clear BK859
    clear HB
    have HO870 := n0_
    have HO873 := n1_
    have HO877 := n2_
    have HO887 := n3_
    have BK858 := n4_
    have BK859 := n5_
    have HB := n6_
    clear n0_ n1_ n2_ n3_ n4_ n5_ n6_
    (try clear hb)
    (try clear hb2)
    (try clear hk)
    (try clear hi)
    (try clear ho0)
    refine hK.out _ _ ⟨(blk_cell BK858.out 0).trans rfl, (blk_cell BK858.out 1).trans rfl, (blk_cell BK858.out 2).trans rfl, (blk_cell BK858.out 3).trans rfl, (blk_cell BK859.out 0).trans rfl, (blk_cell BK859.out 1).trans rfl, (blk_cell BK859.out 2).trans rfl⟩ (fun hHeld => ?_)
    clear hK K
    refine norm_ (a' := ?_) ?_ ?_
    rotate_left
    · show Act.put _ (some 41) _ = _
      simp only [Act.put, List.setIfInBounds_toArray, List.set_cons_zero, List.set_cons_succ, i64_w, i32_w]
      rfl
    refine pure_ (i := 6) (N := some 35) (v := ?_) (a' := ?_) #[true, true, true, true, true, true, true, false, false, false, false] rfl rfl (any_of HT_.out (by kernel_rfl)) (fun _ _ _ h => h) (Or.inl ⟨by rfl, ?_⟩) ?_ ?_
    rotate_left
    · intro w'
      go_simp
      with_reducible rfl
    rotate_left
    · simp only [Act.put, List.setIfInBounds_toArray, List.set_cons_zero, List.set_cons_succ, i64_w, i32_w]
      rfl
    refine pure_ (i := 7) (N := some 42) (v := ?_) (a' := ?_) #[true, true, true, true, true, true, true, true, false, false, false] rfl rfl (any_of HT_.out (by kernel_rfl)) (fun _ _ _ h => h) (Or.inl ⟨by rfl, ?_⟩) ?_ ?_
    rotate_left
    · intro w'
      go_simp
      with_reducible rfl
    rotate_left
    · simp only [Act.put, List.setIfInBounds_toArray, List.set_cons_zero, List.set_cons_succ, i64_w, i32_w]
      rfl
    refine pure_ (i := 8) (N := some 43) (v := ?_) (a' := ?_) #[true, true, true, true, true, true, true, true, true, false, false] rfl rfl (any_of HT_.out (by kernel_rfl)) (fun _ _ _ h => h) (Or.inl ⟨by rfl, ?_⟩) ?_ ?_
    rotate_left
    · intro w'
      go_simp
      with_reducible rfl
    rotate_left
    · simp only [Act.put, List.setIfInBounds_toArray, List.set_cons_zero, List.set_cons_succ, i64_w, i32_w]
      rfl
    refine pure_ (i := 9) (N := some 11) (v := ?_) (a' := ?_) #[true, true, true, true, true, true, true, true, true, true, false] rfl rfl (any_of HT_.out (by kernel_rfl)) (fun _ _ _ h => h) (Or.inl ⟨by rfl, ?_⟩) ?_ ?_
    rotate_left
    · intro w'
      go_simp
      with_reducible rfl
    rotate_left
    · simp only [Act.put, List.setIfInBounds_toArray, List.set_cons_zero, List.set_cons_succ, i64_w, i32_w]
      rfl
    refine pure_ (i := 10) (N := some 12) (v := ?_) (a' := ?_) #[true, true, true, true, true, true, true, true, true, true, true] rfl rfl (any_of HT_.out (by kernel_rfl)) (fun _ _ _ h => h) (Or.inl ⟨by rfl, ?_⟩) ?_ ?_
    rotate_left
    · intro w'
      go_simp
      with_reducible rfl
    rotate_left
    · simp only [Act.put, List.setIfInBounds_toArray, List.set_cons_zero, List.set_cons_succ, i64_w, i32_w]
      rfl
    refine done_ (done_of HT_.out (by kernel_rfl)) ?_
    go_upto_region 8 with (fail)
    go_cut [52] (fun v52 wc => ∃ (kq : Nat) (x52_15 : Bool), v52 = .bool x52_15 ∧ Aside0 (laws_FnExactStrengthsIn.j0 kq l2 t871 t874 t875 t885 t888 x52_15 a0_0 a0_1 a0_2 a0_3 a1_0 a1_1 a1_2 = some r) ∧ Aside0 (kq ≤ k) ∧ Aside0 (Kd.R (Kd.int .i64) 2 wc w.heap.size (fun k_ => some k_ ≠ (v886 : Value).ownBlock) v872 t871) ∧ Aside0 (Kd.R k161 161 wc w.heap.size (fun _ => True) (.slice Ao29 t875.length co29) t875) ∧ Aside0 (Kd.R (Kd.int .i64) 2 wc w.heap.size (fun k_ => some k_ ≠ (v872 : Value).ownBlock) v886 t885) ∧ Aside0 (wc.heap[gb858]? = some (.cells #[.int .i64 a0_0, .int .i64 a0_1, .int .i8 a0_2, .int .i8 a0_3] 92 (0, 0))) ∧ Aside0 (wc.heap[gb859]? = some (.cells #[.int .i64 a1_0, .int .i64 a1_1, .int .i64 a1_2] 93 (0, 0))) ∧ Aside0 (Below w.heap.size w wc))
    case first =>
      have H := HC16.out
      clear HC16
      replace H := Option.bind_eq_some_iff.mp H
      obtain ⟨t889, A310, H⟩ := H
      replace H : (if t889 = true then (laws_FnExactStrengthsIn.j0 k l2 t871 t874 t875 t885 t888 (t888 != t874) a0_0 a0_1 a0_2 a0_3 a1_0 a1_1 a1_2) else (laws_FnExactStrengthsIn.j0 k l2 t871 t874 t875 t885 t888 true a0_0 a0_1 a0_2 a0_3 a1_0 a1_1 a1_2)) = some r := H
      have A31 := Aside0.mk A310
      clear A310
      by_cases c32 : t889 = true
      · subst c32
        have H1 : (laws_FnExactStrengthsIn.j0 k l2 t871 t874 t875 t885 t888 (t888 != t874) a0_0 a0_1 a0_2 a0_3 a1_0 a1_1 a1_2) = some r := by rw [if_pos rfl] at H; exact H
        clear H
        have H := H1
        clear H1
        have H' := Aside0.mk H
        clear H
        obtain ⟨Ao33, co33, eo33⟩ := Kd.R_slice HO887.out
        subst eo33
        obtain ⟨Ao34, co34, eo34⟩ := Kd.R_slice HO873.out
        subst eo34
        go_wp2_with (first | ((with_reducible refine gate_callee (f := 32) rfl ?_); refine goesL_ (some 46) rfl rfl Try.func32 (by kernel_rfl) rfl #[.slice Ao33 t885.length co33, .slice Ao34 t871.length co34] rfl (by (try simp only [List.map_toArray, List.map_cons, List.map_nil]); first | done | rfl | (simp only [List.length_drop, List.length_take]; rfl)) ?_; (with_reducible refine (laws_eqInt64S.calls k _ _ t885 _ _ t871 true _ ?side1 ?side2 ?side3 ?side4 A31.out).mono ?_); (case side1 => repeat (first | exact (Kd.R_reads' HO887.out).2.2 | (with_reducible refine Kd.C_alloc ?_ _) | (with_reducible refine Kd.C_drewN ?_ _) | (with_reducible refine Kd.C_drew ?_))); (case side2 => exact (Kd.R_reads' HO887.out).2.1); (case side3 => repeat (first | exact (Kd.R_reads' HO873.out).2.2 | (with_reducible refine Kd.C_alloc ?_ _) | (with_reducible refine Kd.C_drewN ?_ _) | (with_reducible refine Kd.C_drew ?_))); (case side4 => exact (Kd.R_reads' HO873.out).2.1); rintro e w' ⟨rfl, ⟨nd, rfl⟩⟩; refine ⟨_, rfl, ?_⟩))
        go_meet
        case rel => exact ⟨_, ((t888 != t874)), (by first | rfl | (simp; done) | (simp [*]; done)), H', ⟨by first | omega | exact Nat.le_refl _⟩, ⟨by (with_reducible repeat (first | apply Kd.R_alloc | apply Kd.R_drewN | apply Kd.R_drew)); exact Kd.R_mono HO873.out (fun _ hk => hk.2)⟩, ⟨by (with_reducible repeat (first | apply Kd.R_alloc | apply Kd.R_drewN | apply Kd.R_drew)); exact Kd.R_mono HO877.out (fun _ hk => trivial)⟩, ⟨by (with_reducible repeat (first | apply Kd.R_alloc | apply Kd.R_drewN | apply Kd.R_drew)); exact Kd.R_mono HO887.out (fun _ hk => hk.2)⟩, ⟨by (with_reducible repeat (first | refine blk_drewN ?_ _ | refine blk_drew ?_ | refine blk_alloc ?_ _)); exact BK858.out⟩, ⟨by (with_reducible repeat (first | refine blk_drewN ?_ _ | refine blk_drew ?_ | refine blk_alloc ?_ _)); exact BK859.out⟩, ⟨by repeat (first | (with_reducible first | exact HB.out | apply below_alloc | apply pw_below_drewN | apply below_drew1 | refine below_set ?_ GE858.out | refine below_set ?_ GE859.out) | exact HB.out)⟩⟩
      · replace c32 := Bool.eq_false_iff.mpr c32
        subst c32
        have H1 : (laws_FnExactStrengthsIn.j0 k l2 t871 t874 t875 t885 t888 true a0_0 a0_1 a0_2 a0_3 a1_0 a1_1 a1_2) = some r := by rw [if_neg (show ¬ (false = true) by decide)] at H; exact H
        clear H
        have H := H1
        clear H1
        have H' := Aside0.mk H
        clear H
        obtain ⟨Ao35, co35, eo35⟩ := Kd.R_slice HO887.out
        subst eo35
        obtain ⟨Ao36, co36, eo36⟩ := Kd.R_slice HO873.out
        subst eo36
        go_wp2_with (first | ((with_reducible refine gate_callee (f := 32) rfl ?_); refine goesL_ (some 46) rfl rfl Try.func32 (by kernel_rfl) rfl #[.slice Ao35 t885.length co35, .slice Ao36 t871.length co36] rfl (by (try simp only [List.map_toArray, List.map_cons, List.map_nil]); first | done | rfl | (simp only [List.length_drop, List.length_take]; rfl)) ?_; (with_reducible refine (laws_eqInt64S.calls k _ _ t885 _ _ t871 false _ ?side1 ?side2 ?side3 ?side4 A31.out).mono ?_); (case side1 => repeat (first | exact (Kd.R_reads' HO887.out).2.2 | (with_reducible refine Kd.C_alloc ?_ _) | (with_reducible refine Kd.C_drewN ?_ _) | (with_reducible refine Kd.C_drew ?_))); (case side2 => exact (Kd.R_reads' HO887.out).2.1); (case side3 => repeat (first | exact (Kd.R_reads' HO873.out).2.2 | (with_reducible refine Kd.C_alloc ?_ _) | (with_reducible refine Kd.C_drewN ?_ _) | (with_reducible refine Kd.C_drew ?_))); (case side4 => exact (Kd.R_reads' HO873.out).2.1); rintro e w' ⟨rfl, ⟨nd, rfl⟩⟩; refine ⟨_, rfl, ?_⟩))
        go_meet
        case rel => exact ⟨_, (true), (by first | rfl | (simp; done) | (simp [*]; done)), H', ⟨by first | omega | exact Nat.le_refl _⟩, ⟨by (with_reducible repeat (first | apply Kd.R_alloc | apply Kd.R_drewN | apply Kd.R_drew)); exact Kd.R_mono HO873.out (fun _ hk => hk.2)⟩, ⟨by (with_reducible repeat (first | apply Kd.R_alloc | apply Kd.R_drewN | apply Kd.R_drew)); exact Kd.R_mono HO877.out (fun _ hk => trivial)⟩, ⟨by (with_reducible repeat (first | apply Kd.R_alloc | apply Kd.R_drewN | apply Kd.R_drew)); exact Kd.R_mono HO887.out (fun _ hk => hk.2)⟩, ⟨by (with_reducible repeat (first | refine blk_drewN ?_ _ | refine blk_drew ?_ | refine blk_alloc ?_ _)); exact BK858.out⟩, ⟨by (with_reducible repeat (first | refine blk_drewN ?_ _ | refine blk_drew ?_ | refine blk_alloc ?_ _)); exact BK859.out⟩, ⟨by repeat (first | (with_reducible first | exact HB.out | apply below_alloc | apply pw_below_drewN | apply below_drew1 | refine below_set ?_ GE858.out | refine below_set ?_ GE859.out) | exact HB.out)⟩⟩
    case rest =>
      clear HC16
      try clear c1
      try clear c2
      try clear p2
      try clear c3
      try clear c5
      try clear c5b0
      try clear c6
      try clear c7
      try clear c8
      try clear c11
      try clear c32
      obtain ⟨kq, x52_15, rfl, HA, HJ15, HO_8, HO_10, HO_11, BK858, BK859, HB⟩ := hcut
      cases kq with
      | zero => exact absurd HA.out (by simp [laws_FnExactStrengthsIn.j0])
      | succ kj15 =>
        have H := HA.out
        clear HA
        simp only [laws_FnExactStrengthsIn.j0] at H
        by_cases c37 : x52_15 = true
        · subst c37
          have H1 : (some false) = some r := by rw [if_pos rfl] at H; exact H
          clear H
          have H := H1
          clear H1
          exact absurd (Option.some.inj H) (by rw [hT_.out]; decide)
        · replace c37 := Bool.eq_false_iff.mpr c37
          subst c37
          have H1 : ((laws_toActS.f kj15 l2).bind fun t890 => ((laws_eqActS.f kj15 t875 t890).bind fun t893 => (if t893 = true then ((laws_markActS.f kj15 t875 1).bind fun bt894 => (if bt894.1 < 0 then (laws_FnExactStrengthsIn.j1 kj15 l2 t871 t874 t885 true a0_0 a0_1 a0_2 a0_3 a1_0 a1_1 a1_2) else ((laws_eqInt64S.f kj15 t885 t871).bind fun t896 => (if t896 = true then (laws_FnExactStrengthsIn.j1 kj15 l2 t871 t874 t885 (t888 != t874) a0_0 a0_1 a0_2 a0_3 a1_0 a1_1 a1_2) else (laws_FnExactStrengthsIn.j1 kj15 l2 t871 t874 t885 true a0_0 a0_1 a0_2 a0_3 a1_0 a1_1 a1_2))))) else (some false)))) = some r := by rw [if_neg (show ¬ (false = true) by decide)] at H; exact H
          clear H
          have H := H1
          clear H1
          replace H := Option.bind_eq_some_iff.mp H
          obtain ⟨t890, A380, H⟩ := H
          replace H : ((laws_eqActS.f kj15 t875 t890).bind fun t893 => (if t893 = true then ((laws_markActS.f kj15 t875 1).bind fun bt894 => (if bt894.1 < 0 then (laws_FnExactStrengthsIn.j1 kj15 l2 t871 t874 t885 true a0_0 a0_1 a0_2 a0_3 a1_0 a1_1 a1_2) else ((laws_eqInt64S.f kj15 t885 t871).bind fun t896 => (if t896 = true then (laws_FnExactStrengthsIn.j1 kj15 l2 t871 t874 t885 (t888 != t874) a0_0 a0_1 a0_2 a0_3 a1_0 a1_1 a1_2) else (laws_FnExactStrengthsIn.j1 kj15 l2 t871 t874 t885 true a0_0 a0_1 a0_2 a0_3 a1_0 a1_1 a1_2))))) else (some false))) = some r := H
          have A38 := Aside0.mk A380
          clear A380
          replace H := Option.bind_eq_some_iff.mp H
          obtain ⟨t893, A390, H⟩ := H
          replace H : (if t893 = true then ((laws_markActS.f kj15 t875 1).bind fun bt894 => (if bt894.1 < 0 then (laws_FnExactStrengthsIn.j1 kj15 l2 t871 t874 t885 true a0_0 a0_1 a0_2 a0_3 a1_0 a1_1 a1_2) else ((laws_eqInt64S.f kj15 t885 t871).bind fun t896 => (if t896 = true then (laws_FnExactStrengthsIn.j1 kj15 l2 t871 t874 t885 (t888 != t874) a0_0 a0_1 a0_2 a0_3 a1_0 a1_1 a1_2) else (laws_FnExactStrengthsIn.j1 kj15 l2 t871 t874 t885 true a0_0 a0_1 a0_2 a0_3 a1_0 a1_1 a1_2))))) else (some false)) = some r := H
          have A39 := Aside0.mk A390
          clear A390
          by_cases c40 : t893 = true
          · subst c40
            have H1 : ((laws_markActS.f kj15 t875 1).bind fun bt894 => (if bt894.1 < 0 then (laws_FnExactStrengthsIn.j1 kj15 l2 t871 t874 t885 true a0_0 a0_1 a0_2 a0_3 a1_0 a1_1 a1_2) else ((laws_eqInt64S.f kj15 t885 t871).bind fun t896 => (if t896 = true then (laws_FnExactStrengthsIn.j1 kj15 l2 t871 t874 t885 (t888 != t874) a0_0 a0_1 a0_2 a0_3 a1_0 a1_1 a1_2) else (laws_FnExactStrengthsIn.j1 kj15 l2 t871 t874 t885 true a0_0 a0_1 a0_2 a0_3 a1_0 a1_1 a1_2))))) = some r := by rw [if_pos rfl] at H; exact H
            clear H
            have H := H1
            clear H1
            replace H := Option.bind_eq_some_iff.mp H
            obtain ⟨⟨t894, t895⟩, A410, H⟩ := H
            replace H : (if t894 < 0 then (laws_FnExactStrengthsIn.j1 kj15 l2 t871 t874 t885 true a0_0 a0_1 a0_2 a0_3 a1_0 a1_1 a1_2) else ((laws_eqInt64S.f kj15 t885 t871).bind fun t896 => (if t896 = true then (laws_FnExactStrengthsIn.j1 kj15 l2 t871 t874 t885 (t888 != t874) a0_0 a0_1 a0_2 a0_3 a1_0 a1_1 a1_2) else (laws_FnExactStrengthsIn.j1 kj15 l2 t871 t874 t885 true a0_0 a0_1 a0_2 a0_3 a1_0 a1_1 a1_2)))) = some r := H
            have A41 := Aside0.mk A410
            clear A410
            have HC42 := Aside0.mk H
            clear H
            go_upto_region 14 with (first | ((with_reducible refine gate_callee (f := 73) rfl ?_); refine goesL_ (some 55) rfl rfl Try.func73 (by kernel_rfl) rfl #[.slice A2 l2.length c2] rfl (by (try simp only [List.map_toArray, List.map_cons, List.map_nil]); first | done | rfl | (simp only [List.length_drop, List.length_take]; rfl)) ?_; (with_reducible refine (laws_toActS.calls kj15 _ _ l2 t890 _ ?side1 ?side2 A38.out).mono ?_); (case side1 => repeat (first | exact (Kd.C_below HR2.out HB.out) | (with_reducible refine Kd.C_alloc ?_ _) | (with_reducible refine Kd.C_drewN ?_ _) | (with_reducible refine Kd.C_drew ?_))); (case side2 => exact HC2.out); rintro e w43 ⟨v891, rfl, ho0, hb⟩; refine ⟨_, rfl, ?_⟩; have n0_ := Aside0.mk (Kd.R_below HO_8.out hb); have n1_ := Aside0.mk (Kd.R_elder' HO_10.out (Kd.R_base ho0) hb); have n2_ := Aside0.mk (Kd.R_below HO_11.out hb); have n3_ := Aside0.mk (Kd.R_lower (Kd.R_new' ho0 (Kd.R_lt HO_10.out)) (below_size HB.out)); have n4_ := Aside0.mk (blk_below BK858.out hb); have n5_ := Aside0.mk (blk_below BK859.out hb); have n6_ := Aside0.mk (below_step HB.out hb); clear HO_8; clear HO_10; clear HO_11; clear BK858; clear BK859; clear HB; have HO_8 := n0_; have HO_10 := n1_; have HO_11 := n2_; have HO892 := n3_; have BK858 := n4_; have BK859 := n5_; have HB := n6_; clear n0_ n1_ n2_ n3_ n4_ n5_ n6_; (try clear hb); (try clear hb2); (try clear hk); (try clear hi); (try clear ho0); obtain ⟨Ao44, co44, eo44⟩ := Kd.R_slice HO892.out; subst eo44) | ((with_reducible refine gate_callee (f := 75) rfl ?_); refine goesL_ (some 56) rfl rfl Try.func75 (by kernel_rfl) rfl #[.slice Ao29 t875.length co29, .slice Ao44 t890.length co44] rfl (by (try simp only [List.map_toArray, List.map_cons, List.map_nil]); first | done | rfl | (simp only [List.length_drop, List.length_take]; rfl)) ?_; (with_reducible refine (laws_eqActS.calls kj15 _ _ t875 _ _ t890 true _ ?side1 ?side2 ?side3 ?side4 A39.out).mono ?_); (case side1 => repeat (first | exact (Kd.R_reads' HO_10.out).2.2 | (with_reducible refine Kd.C_alloc ?_ _) | (with_reducible refine Kd.C_drewN ?_ _) | (with_reducible refine Kd.C_drew ?_))); (case side2 => exact (Kd.R_reads' HO_10.out).2.1); (case side3 => repeat (first | exact (Kd.R_reads' HO892.out).2.2 | (with_reducible refine Kd.C_alloc ?_ _) | (with_reducible refine Kd.C_drewN ?_ _) | (with_reducible refine Kd.C_drew ?_))); (case side4 => exact (Kd.R_reads' HO892.out).2.1); rintro e w45 ⟨rfl, hb⟩; refine ⟨_, rfl, ?_⟩; have n0_ := Aside0.mk (Kd.R_below HO_8.out hb); have n1_ := Aside0.mk (Kd.R_below HO_10.out hb); have n2_ := Aside0.mk (Kd.R_below HO_11.out hb); have n3_ := Aside0.mk (Kd.R_below HO892.out hb); have n4_ := Aside0.mk (blk_below BK858.out hb); have n5_ := Aside0.mk (blk_below BK859.out hb); have n6_ := Aside0.mk (below_step HB.out hb); clear HO_8; clear HO_10; clear HO_11; clear HO892; clear BK858; clear BK859; clear HB; have HO_8 := n0_; have HO_10 := n1_; have HO_11 := n2_; have HO892 := n3_; have BK858 := n4_; have BK859 := n5_; have HB := n6_; clear n0_ n1_ n2_ n3_ n4_ n5_ n6_; (try clear hb); (try clear hb2); (try clear hk); (try clear hi)) | ((with_reducible refine gate_callee (f := 81) rfl ?_); refine goesL_ (some 60) rfl rfl Try.func81 (by kernel_rfl) rfl #[.slice Ao29 t875.length co29, .int .i64 1] rfl (by (try simp only [List.map_toArray, List.map_cons, List.map_nil]); first | done | rfl | (simp only [List.length_drop, List.length_take]; rfl)) ?_; (with_reducible refine (laws_markActS.calls kj15 (fun k_ => some k_ = (.slice Ao29 t875.length co29 : Value).ownBlock) (.slice Ao29 t875.length co29) t875 1 t894 t895 w _ ?side1 ?side2 A41.out).mono ?_); (case side1 => repeat (first | (with_reducible first | exact HB.out | apply below_alloc | apply pw_below_drewN | apply below_drew1 | refine below_set ?_ GE858.out | refine below_set ?_ GE859.out) | exact HB.out)); (case side2 => exact Kd.R_tight rfl HO_10.out); rintro e w46 ⟨rfl, hy0, hb, hkp⟩; refine ⟨_, rfl, ?_⟩; have n0_ := Aside0.mk (Kd.R_mono (ok' := fun k_ => some k_ ≠ (v886 : Value).ownBlock) (Kd.R_keptB ((Kd.R_apart' HO_8.out (Kd.R_typed HO_10.out) (by decide))) hkp (fun k_ hk_ hs_ => (hk_.2) hs_)) (fun k_ hk_ => hk_.1.1)); have n1_ := Aside0.mk (Kd.R_reok rfl hy0 (fun k_ e_ => HO_10.out.1 k_ e_)); have n2_ := Aside0.mk (Kd.R_mono (ok' := fun k_ => some k_ ≠ (v872 : Value).ownBlock) (Kd.R_keptB ((Kd.R_apart' HO_11.out (Kd.R_typed HO_10.out) (by decide))) hkp (fun k_ hk_ hs_ => (hk_.2) hs_)) (fun k_ hk_ => hk_.1.1)); have n3_ := Aside0.mk (blk_kept BK858.out hkp (fun hs_ => (fun e_ => (Kd.R_ne HO_10.out BK858.out (by decide)) e_) hs_)); have n4_ := Aside0.mk (blk_kept BK859.out hkp (fun hs_ => (fun e_ => (Kd.R_ne HO_10.out BK859.out (by decide)) e_) hs_)); have n5_ := Aside0.mk (Kd.R_mono (ok' := fun k_ => some k_ ≠ (.slice Ao29 t875.length co29 : Value).ownBlock) (Kd.R_keptB (HO892.out) hkp (fun k_ hk_ hs_ => (hk_.2) hs_)) (fun k_ hk_ => hk_.1.2)); have n6_ := Aside0.mk (hb); clear HO_8; clear HO_10; clear HO_11; clear BK858; clear BK859; clear HO892; clear HB; have HO_8 := n0_; have HO_10 := n1_; have HO_11 := n2_; have BK858 := n3_; have BK859 := n4_; have HO892 := n5_; have HB := n6_; clear n0_ n1_ n2_ n3_ n4_ n5_ n6_; (try clear hb); (try clear hkp); (try clear hy0)))
            (try simp only [Act.put, List.setIfInBounds_toArray, List.set_cons_zero, List.set_cons_succ])
            go_cut [73] (fun v73 wc => ∃ (kq : Nat) (x73_41 : Bool), v73 = .bool x73_41 ∧ Aside0 (laws_FnExactStrengthsIn.j1 kq l2 t871 t874 t885 x73_41 a0_0 a0_1 a0_2 a0_3 a1_0 a1_1 a1_2 = some r) ∧ Aside0 (kq ≤ kj15) ∧ Aside0 (Kd.R (Kd.int .i64) 2 wc w.heap.size (fun k_ => some k_ ≠ (v886 : Value).ownBlock) v872 t871) ∧ Aside0 (Kd.R (Kd.int .i64) 2 wc w.heap.size (fun k_ => some k_ ≠ (v872 : Value).ownBlock) v886 t885) ∧ Aside0 (wc.heap[gb858]? = some (.cells #[.int .i64 a0_0, .int .i64 a0_1, .int .i8 a0_2, .int .i8 a0_3] 92 (0, 0))) ∧ Aside0 (wc.heap[gb859]? = some (.cells #[.int .i64 a1_0, .int .i64 a1_1, .int .i64 a1_2] 93 (0, 0))) ∧ Aside0 (Below w.heap.size w wc))
            case first =>
              have H := HC42.out
              clear HC42
              by_cases c47 : t894 < 0
              · rw [if_pos c47] at H
                have c47b0 : decide (t894 < 0) = true := decide_eq_true c47
                clear c47
                (first | rw [c47b0] | (simp only [i64_w, i32_w]; rw [c47b0]) | skip)
                have H' := Aside0.mk H
                clear H
                go_wp2
                go_meet
                case rel => exact ⟨_, (true), (by first | rfl | (simp; done) | (simp [*]; done)), H', ⟨by have := HJ15.out; first | omega | exact Nat.le_refl _⟩, ⟨by (with_reducible repeat (first | apply Kd.R_alloc | apply Kd.R_drewN | apply Kd.R_drew)); exact HO_8.out⟩, ⟨by (with_reducible repeat (first | apply Kd.R_alloc | apply Kd.R_drewN | apply Kd.R_drew)); exact HO_11.out⟩, ⟨by (with_reducible repeat (first | refine blk_drewN ?_ _ | refine blk_drew ?_ | refine blk_alloc ?_ _)); exact BK858.out⟩, ⟨by (with_reducible repeat (first | refine blk_drewN ?_ _ | refine blk_drew ?_ | refine blk_alloc ?_ _)); exact BK859.out⟩, ⟨by repeat (first | (with_reducible first | exact HB.out | apply below_alloc | apply pw_below_drewN | apply below_drew1 | refine below_set ?_ GE858.out | refine below_set ?_ GE859.out) | exact HB.out)⟩⟩
              · rw [if_neg c47] at H
                have c47b0 : decide (t894 < 0) = false := decide_eq_false c47
                clear c47
                (first | rw [c47b0] | (simp only [i64_w, i32_w]; rw [c47b0]) | skip)
                replace H := Option.bind_eq_some_iff.mp H
                obtain ⟨t896, A480, H⟩ := H
                replace H : (if t896 = true then (laws_FnExactStrengthsIn.j1 kj15 l2 t871 t874 t885 (t888 != t874) a0_0 a0_1 a0_2 a0_3 a1_0 a1_1 a1_2) else (laws_FnExactStrengthsIn.j1 kj15 l2 t871 t874 t885 true a0_0 a0_1 a0_2 a0_3 a1_0 a1_1 a1_2)) = some r := H
                have A48 := Aside0.mk A480
                clear A480
                by_cases c49 : t896 = true
                · subst c49
                  have H1 : (laws_FnExactStrengthsIn.j1 kj15 l2 t871 t874 t885 (t888 != t874) a0_0 a0_1 a0_2 a0_3 a1_0 a1_1 a1_2) = some r := by rw [if_pos rfl] at H; exact H
                  clear H
                  have H := H1
                  clear H1
                  have H' := Aside0.mk H
                  clear H
                  obtain ⟨Ao50, co50, eo50⟩ := Kd.R_slice HO_11.out
                  subst eo50
                  obtain ⟨Ao51, co51, eo51⟩ := Kd.R_slice HO_8.out
                  subst eo51
                  go_wp2_with (first | (go_at_call 32; (with_reducible refine (laws_eqInt64S.calls kj15 _ _ t885 _ _ t871 true _ ?side1 ?side2 ?side3 ?side4 A48.out).mono ?_); (case side1 => repeat (first | exact (Kd.R_reads' HO_11.out).2.2 | (with_reducible refine Kd.C_alloc ?_ _) | (with_reducible refine Kd.C_drewN ?_ _) | (with_reducible refine Kd.C_drew ?_))); (case side2 => exact (Kd.R_reads' HO_11.out).2.1); (case side3 => repeat (first | exact (Kd.R_reads' HO_8.out).2.2 | (with_reducible refine Kd.C_alloc ?_ _) | (with_reducible refine Kd.C_drewN ?_ _) | (with_reducible refine Kd.C_drew ?_))); (case side4 => exact (Kd.R_reads' HO_8.out).2.1); rintro e w' ⟨rfl, ⟨nd, rfl⟩⟩))
                  go_meet
                  case rel => exact ⟨_, ((t888 != t874)), (by first | rfl | (simp; done) | (simp [*]; done)), H', ⟨by have := HJ15.out; first | omega | exact Nat.le_refl _⟩, ⟨by (with_reducible repeat (first | apply Kd.R_alloc | apply Kd.R_drewN | apply Kd.R_drew)); exact HO_8.out⟩, ⟨by (with_reducible repeat (first | apply Kd.R_alloc | apply Kd.R_drewN | apply Kd.R_drew)); exact HO_11.out⟩, ⟨by (with_reducible repeat (first | refine blk_drewN ?_ _ | refine blk_drew ?_ | refine blk_alloc ?_ _)); exact BK858.out⟩, ⟨by (with_reducible repeat (first | refine blk_drewN ?_ _ | refine blk_drew ?_ | refine blk_alloc ?_ _)); exact BK859.out⟩, ⟨by repeat (first | (with_reducible first | exact HB.out | apply below_alloc | apply pw_below_drewN | apply below_drew1 | refine below_set ?_ GE858.out | refine below_set ?_ GE859.out) | exact HB.out)⟩⟩
                · replace c49 := Bool.eq_false_iff.mpr c49
                  subst c49
                  have H1 : (laws_FnExactStrengthsIn.j1 kj15 l2 t871 t874 t885 true a0_0 a0_1 a0_2 a0_3 a1_0 a1_1 a1_2) = some r := by rw [if_neg (show ¬ (false = true) by decide)] at H; exact H
                  clear H
                  have H := H1
                  clear H1
                  have H' := Aside0.mk H
                  clear H
                  obtain ⟨Ao52, co52, eo52⟩ := Kd.R_slice HO_11.out
                  subst eo52
                  obtain ⟨Ao53, co53, eo53⟩ := Kd.R_slice HO_8.out
                  subst eo53
                  go_wp2_with (first | (go_at_call 32; (with_reducible refine (laws_eqInt64S.calls kj15 _ _ t885 _ _ t871 false _ ?side1 ?side2 ?side3 ?side4 A48.out).mono ?_); (case side1 => repeat (first | exact (Kd.R_reads' HO_11.out).2.2 | (with_reducible refine Kd.C_alloc ?_ _) | (with_reducible refine Kd.C_drewN ?_ _) | (with_reducible refine Kd.C_drew ?_))); (case side2 => exact (Kd.R_reads' HO_11.out).2.1); (case side3 => repeat (first | exact (Kd.R_reads' HO_8.out).2.2 | (with_reducible refine Kd.C_alloc ?_ _) | (with_reducible refine Kd.C_drewN ?_ _) | (with_reducible refine Kd.C_drew ?_))); (case side4 => exact (Kd.R_reads' HO_8.out).2.1); rintro e w' ⟨rfl, ⟨nd, rfl⟩⟩))
                  go_meet
                  case rel => exact ⟨_, (true), (by first | rfl | (simp; done) | (simp [*]; done)), H', ⟨by have := HJ15.out; first | omega | exact Nat.le_refl _⟩, ⟨by (with_reducible repeat (first | apply Kd.R_alloc | apply Kd.R_drewN | apply Kd.R_drew)); exact HO_8.out⟩, ⟨by (with_reducible repeat (first | apply Kd.R_alloc | apply Kd.R_drewN | apply Kd.R_drew)); exact HO_11.out⟩, ⟨by (with_reducible repeat (first | refine blk_drewN ?_ _ | refine blk_drew ?_ | refine blk_alloc ?_ _)); exact BK858.out⟩, ⟨by (with_reducible repeat (first | refine blk_drewN ?_ _ | refine blk_drew ?_ | refine blk_alloc ?_ _)); exact BK859.out⟩, ⟨by repeat (first | (with_reducible first | exact HB.out | apply below_alloc | apply pw_below_drewN | apply below_drew1 | refine below_set ?_ GE858.out | refine below_set ?_ GE859.out) | exact HB.out)⟩⟩
            case rest =>
              clear HC42
              try clear c1
              try clear c2
              try clear p2
              try clear c3
              try clear c4
              try clear c5
              try clear c5b0
              try clear c6
              try clear c7
              try clear c8
              try clear c11
              try clear c32
              try clear c37
              try clear c40
              try clear c47
              try clear c47b0
              try clear c49
              try clear p2
              obtain ⟨kq, x73_41, rfl, HA, HJ41, HO_8, HO_11, BK858, BK859, HB⟩ := hcut
              cases kq with
              | zero => exact absurd HA.out (by simp [laws_FnExactStrengthsIn.j1])
              | succ kj41 =>
                have H := HA.out
                clear HA
                simp only [laws_FnExactStrengthsIn.j1] at H
                by_cases c54 : x73_41 = true
                · subst c54
                  have H1 : (some false) = some r := by rw [if_pos rfl] at H; exact H
                  clear H
                  have H := H1
                  clear H1
                  exact absurd (Option.some.inj H) (by rw [hT_.out]; decide)
                · replace c54 := Bool.eq_false_iff.mpr c54
                  subst c54
                  have H1 : ((laws_markInt64S.f kj41 t885 1).bind fun bt897 => ((laws_heldInt64S.f kj41 bt897.2 1).bind fun t899 => (if t899 < 0 then (some false) else (if t899 = bt897.1 then ((laws_toDeveloper.f a0_0 a0_1 a0_2 a0_3).bind fun bt900 => ((laws_toBath.f a1_0 a1_1 a1_2).bind fun bt904 => ((laws_toActS.f kj41 l2).bind fun t907 => ((impl_StrengthsIn.f kj41 bt900.1 bt900.2.1 bt900.2.2.1 bt900.2.2.2 bt904.1 bt904.2.1 bt904.2.2 t907).bind fun bt910 => ((laws_eqInt64S.f kj41 bt910.1 t871).bind fun t914 => (if t914 = true then (laws_FnExactStrengthsIn.j2 kj41 bt897.2 bt897.1 (bt910.2 != t874)) else (laws_FnExactStrengthsIn.j2 kj41 bt897.2 bt897.1 true))))))) else (some false))))) = some r := by rw [if_neg (show ¬ (false = true) by decide)] at H; exact H
                  clear H
                  have H := H1
                  clear H1
                  replace H := Option.bind_eq_some_iff.mp H
                  obtain ⟨⟨t897, t898⟩, A550, H⟩ := H
                  replace H : ((laws_heldInt64S.f kj41 t898 1).bind fun t899 => (if t899 < 0 then (some false) else (if t899 = t897 then ((laws_toDeveloper.f a0_0 a0_1 a0_2 a0_3).bind fun bt900 => ((laws_toBath.f a1_0 a1_1 a1_2).bind fun bt904 => ((laws_toActS.f kj41 l2).bind fun t907 => ((impl_StrengthsIn.f kj41 bt900.1 bt900.2.1 bt900.2.2.1 bt900.2.2.2 bt904.1 bt904.2.1 bt904.2.2 t907).bind fun bt910 => ((laws_eqInt64S.f kj41 bt910.1 t871).bind fun t914 => (if t914 = true then (laws_FnExactStrengthsIn.j2 kj41 t898 t897 (bt910.2 != t874)) else (laws_FnExactStrengthsIn.j2 kj41 t898 t897 true))))))) else (some false)))) = some r := H
                  have A55 := Aside0.mk A550
                  clear A550
                  replace H := Option.bind_eq_some_iff.mp H
                  obtain ⟨t899, A560, H⟩ := H
                  replace H : (if t899 < 0 then (some false) else (if t899 = t897 then ((laws_toDeveloper.f a0_0 a0_1 a0_2 a0_3).bind fun bt900 => ((laws_toBath.f a1_0 a1_1 a1_2).bind fun bt904 => ((laws_toActS.f kj41 l2).bind fun t907 => ((impl_StrengthsIn.f kj41 bt900.1 bt900.2.1 bt900.2.2.1 bt900.2.2.2 bt904.1 bt904.2.1 bt904.2.2 t907).bind fun bt910 => ((laws_eqInt64S.f kj41 bt910.1 t871).bind fun t914 => (if t914 = true then (laws_FnExactStrengthsIn.j2 kj41 t898 t897 (bt910.2 != t874)) else (laws_FnExactStrengthsIn.j2 kj41 t898 t897 true))))))) else (some false))) = some r := H
                  have A56 := Aside0.mk A560
                  clear A560
                  by_cases c57 : t899 < 0
                  · rw [if_pos c57] at H
                    have c57b0 : decide (t899 < 0) = true := decide_eq_true c57
                    clear c57
                    exact absurd (Option.some.inj H) (by rw [hT_.out]; decide)
                  · rw [if_neg c57] at H
                    have c57b0 : decide (t899 < 0) = false := decide_eq_false c57
                    clear c57
                    by_cases c58 : t899 = t897
                    · rw [if_pos c58] at H
                      have c58b0 : (t899 == t897) = true := beq_iff_eq.mpr c58
                      have c58b1 : (t899 != t897) = false := bne_eq_false_iff_eq.mpr c58
                      clear c58
                      replace H := Option.bind_eq_some_iff.mp H
                      obtain ⟨⟨t900, t901, t902, t903⟩, A590, H⟩ := H
                      replace H : ((laws_toBath.f a1_0 a1_1 a1_2).bind fun bt904 => ((laws_toActS.f kj41 l2).bind fun t907 => ((impl_StrengthsIn.f kj41 t900 t901 t902 t903 bt904.1 bt904.2.1 bt904.2.2 t907).bind fun bt910 => ((laws_eqInt64S.f kj41 bt910.1 t871).bind fun t914 => (if t914 = true then (laws_FnExactStrengthsIn.j2 kj41 t898 t897 (bt910.2 != t874)) else (laws_FnExactStrengthsIn.j2 kj41 t898 t897 true)))))) = some r := H
                      have A59 := Aside0.mk A590
                      clear A590
                      replace H := Option.bind_eq_some_iff.mp H
                      obtain ⟨⟨t904, t905, t906⟩, A600, H⟩ := H
                      replace H : ((laws_toActS.f kj41 l2).bind fun t907 => ((impl_StrengthsIn.f kj41 t900 t901 t902 t903 t904 t905 t906 t907).bind fun bt910 => ((laws_eqInt64S.f kj41 bt910.1 t871).bind fun t914 => (if t914 = true then (laws_FnExactStrengthsIn.j2 kj41 t898 t897 (bt910.2 != t874)) else (laws_FnExactStrengthsIn.j2 kj41 t898 t897 true))))) = some r := H
                      have A60 := Aside0.mk A600
                      clear A600
                      replace H := Option.bind_eq_some_iff.mp H
                      obtain ⟨t907, A610, H⟩ := H
                      replace H : ((impl_StrengthsIn.f kj41 t900 t901 t902 t903 t904 t905 t906 t907).bind fun bt910 => ((laws_eqInt64S.f kj41 bt910.1 t871).bind fun t914 => (if t914 = true then (laws_FnExactStrengthsIn.j2 kj41 t898 t897 (bt910.2 != t874)) else (laws_FnExactStrengthsIn.j2 kj41 t898 t897 true)))) = some r := H
                      have A61 := Aside0.mk A610
                      clear A610
                      replace H := Option.bind_eq_some_iff.mp H
                      obtain ⟨⟨t910, t913⟩, A620, H⟩ := H
                      replace H : ((laws_eqInt64S.f kj41 t910 t871).bind fun t914 => (if t914 = true then (laws_FnExactStrengthsIn.j2 kj41 t898 t897 (t913 != t874)) else (laws_FnExactStrengthsIn.j2 kj41 t898 t897 true))) = some r := H
                      have A62 := Aside0.mk A620
                      clear A620
                      have HC63 := Aside0.mk H
                      clear H
                      obtain ⟨Ao64, co64, eo64⟩ := Kd.R_slice HO_11.out
                      subst eo64
                      try go_wp2_with (first | ((with_reducible refine gate_callee (f := 35) rfl ?_); refine goesL_ (some 76) rfl rfl Try.func35 (by kernel_rfl) rfl #[.slice Ao64 t885.length co64, .int .i64 1] rfl (by (try simp only [List.map_toArray, List.map_cons, List.map_nil]); first | done | rfl | (simp only [List.length_drop, List.length_take]; rfl)) ?_; (with_reducible refine (laws_markInt64S.calls kj41 (fun k_ => some k_ = (.slice Ao64 t885.length co64 : Value).ownBlock) (.slice Ao64 t885.length co64) t885 1 t897 t898 w _ ?side1 ?side2 A55.out).mono ?_); (case side1 => repeat (first | (with_reducible first | exact HB.out | apply below_alloc | apply pw_below_drewN | apply below_drew1 | refine below_set ?_ GE858.out | refine below_set ?_ GE859.out) | exact HB.out)); (case side2 => exact Kd.R_tight rfl HO_11.out); rintro e w65 ⟨rfl, hy0, hb, hkp⟩; refine ⟨_, rfl, ?_⟩; have n0_ := Aside0.mk (Kd.R_mono (ok' := fun k_ => some k_ ≠ (.slice Ao64 t885.length co64 : Value).ownBlock) (Kd.R_keptB (HO_8.out) hkp (fun k_ hk_ hs_ => (hk_) hs_)) (fun k_ hk_ => hk_.1)); have n1_ := Aside0.mk (Kd.R_reok rfl hy0 (fun k_ e_ => HO_11.out.1 k_ e_)); have n2_ := Aside0.mk (blk_kept BK858.out hkp (fun hs_ => (fun e_ => (Kd.R_ne HO_11.out BK858.out (by decide)) e_) hs_)); have n3_ := Aside0.mk (blk_kept BK859.out hkp (fun hs_ => (fun e_ => (Kd.R_ne HO_11.out BK859.out (by decide)) e_) hs_)); have n4_ := Aside0.mk (hb); clear HO_8; clear HO_11; clear BK858; clear BK859; clear HB; have HO_8 := n0_; have HO_11 := n1_; have BK858 := n2_; have BK859 := n3_; have HB := n4_; clear n0_ n1_ n2_ n3_ n4_; (try clear hb); (try clear hkp); (try clear hy0)) | ((with_reducible refine gate_callee (f := 36) rfl ?_); refine goesL_ (some 79) rfl rfl Try.func36 (by kernel_rfl) rfl #[.slice Ao64 t898.length co64, .int .i64 1] rfl (by (try simp only [List.map_toArray, List.map_cons, List.map_nil]); first | done | (rw [show t898.length = t885.length from (Kd.R_reads' HO_11.out).1.symm] <;> rfl) | rfl | (simp only [List.length_drop, List.length_take]; rfl)) ?_; (with_reducible refine (laws_heldInt64S.calls kj41 _ _ t898 1 t899 _ ?side1 ?side2 A56.out).mono ?_); (case side1 => repeat (first | exact (Kd.R_reads' HO_11.out).2.2 | (with_reducible refine Kd.C_alloc ?_ _) | (with_reducible refine Kd.C_drewN ?_ _) | (with_reducible refine Kd.C_drew ?_))); (case side2 => rw [show t898.length = t885.length from (Kd.R_reads' HO_11.out).1.symm]; exact (Kd.R_reads' HO_11.out).2.1); rintro e w' ⟨rfl, ⟨nd, rfl⟩⟩; refine ⟨_, rfl, ?_⟩))
                      (try (rw [drewN_self w65]; generalize hq_ : World.drewN w65 _ = w65; have n0_ : Aside0 (Kd.R (Kd.int .i64) 2 w65 w.heap.size (fun k_ => some k_ ≠ (v872 : Value).ownBlock) (.slice Ao64 t885.length co64) t898) := ⟨by rw [← hq_]; exact (by (with_reducible repeat (first | apply Kd.R_alloc | apply Kd.R_drewN | apply Kd.R_drew)); exact HO_11.out)⟩; have n1_ : Aside0 (Kd.R (Kd.int .i64) 2 w65 w.heap.size (fun k_ => some k_ ≠ (.slice Ao64 t885.length co64 : Value).ownBlock) v872 t871) := ⟨by rw [← hq_]; exact (by (with_reducible repeat (first | apply Kd.R_alloc | apply Kd.R_drewN | apply Kd.R_drew)); exact HO_8.out)⟩; have n2_ : Aside0 (w65.heap[gb858]? = some (.cells #[.int .i64 a0_0, .int .i64 a0_1, .int .i8 a0_2, .int .i8 a0_3] 92 (0, 0))) := ⟨by rw [← hq_]; exact (by (with_reducible repeat (first | refine blk_drewN ?_ _ | refine blk_drew ?_ | refine blk_alloc ?_ _)); exact BK858.out)⟩; have n3_ : Aside0 (w65.heap[gb859]? = some (.cells #[.int .i64 a1_0, .int .i64 a1_1, .int .i64 a1_2] 93 (0, 0))) := ⟨by rw [← hq_]; exact (by (with_reducible repeat (first | refine blk_drewN ?_ _ | refine blk_drew ?_ | refine blk_alloc ?_ _)); exact BK859.out)⟩; have n4_ : Aside0 (Below w.heap.size w w65) := ⟨by rw [← hq_]; exact (by repeat (first | (with_reducible first | exact HB.out | apply below_alloc | apply pw_below_drewN | apply below_drew1 | refine below_set ?_ GE858.out | refine below_set ?_ GE859.out) | exact HB.out))⟩; clear HO_11 HO_8 BK858 BK859 HB hq_; have HO_11 := n0_; have HO_8 := n1_; have BK858 := n2_; have BK859 := n3_; have HB := n4_; clear n0_ n1_ n2_ n3_ n4_; have hcR858_0 : w65.cell? ⟨gb858, 0, none⟩ = some (.int .i64 a0_0) := (blk_cell BK858.out 0).trans rfl; have hfR858_0 := blk_frozen BK858.out 0; have hcR858_1 : w65.cell? ⟨gb858, 1, none⟩ = some (.int .i64 a0_1) := (blk_cell BK858.out 1).trans rfl; have hfR858_1 := blk_frozen BK858.out 1; have hcR858_2 : w65.cell? ⟨gb858, 2, none⟩ = some (.int .i8 a0_2) := (blk_cell BK858.out 2).trans rfl; have hfR858_2 := blk_frozen BK858.out 2; have hcR858_3 : w65.cell? ⟨gb858, 3, none⟩ = some (.int .i8 a0_3) := (blk_cell BK858.out 3).trans rfl; have hfR858_3 := blk_frozen BK858.out 3; have hcR859_0 : w65.cell? ⟨gb859, 0, none⟩ = some (.int .i64 a1_0) := (blk_cell BK859.out 0).trans rfl; have hfR859_0 := blk_frozen BK859.out 0; have hcR859_1 : w65.cell? ⟨gb859, 1, none⟩ = some (.int .i64 a1_1) := (blk_cell BK859.out 1).trans rfl; have hfR859_1 := blk_frozen BK859.out 1; have hcR859_2 : w65.cell? ⟨gb859, 2, none⟩ = some (.int .i64 a1_2) := (blk_cell BK859.out 2).trans rfl; have hfR859_2 := blk_frozen BK859.out 2))
                      have n0_ := Aside0.mk (Kd.R_drew HO_8.out)
                      have n1_ := Aside0.mk (Kd.R_drew HO_11.out)
                      have n2_ := Aside0.mk (blk_drew BK858.out)
                      have n3_ := Aside0.mk (blk_drew BK859.out)
                      have n4_ := Aside0.mk (below_drew1 HB.out)
                      clear HO_8
                      clear HO_11
                      clear BK858
                      clear BK859
                      clear HB
                      have HO_8 := n0_
                      have HO_11 := n1_
                      have BK858 := n2_
                      have BK859 := n3_
                      have HB := n4_
                      clear n0_ n1_ n2_ n3_ n4_
                      refine start_ (n := 12) (S := fun w' => w'.cell? ⟨gb858, 0, none⟩ = some (.int .i64 a0_0) ∧ w'.cell? ⟨gb858, 1, none⟩ = some (.int .i64 a0_1) ∧ w'.cell? ⟨gb858, 2, none⟩ = some (.int .i8 a0_2) ∧ w'.cell? ⟨gb858, 3, none⟩ = some (.int .i8 a0_3) ∧ w'.cell? ⟨gb859, 0, none⟩ = some (.int .i64 a1_0) ∧ w'.cell? ⟨gb859, 1, none⟩ = some (.int .i64 a1_1) ∧ w'.cell? ⟨gb859, 2, none⟩ = some (.int .i64 a1_2)) (ds := []) #[false, false, false, false, false, false, false, false, false, false, false, false] (by kernel_rfl) rfl rfl ⟨(blk_cell BK858.out 0).trans rfl, (blk_cell BK858.out 1).trans rfl, (blk_cell BK858.out 2).trans rfl, (blk_cell BK858.out 3).trans rfl, (blk_cell BK859.out 0).trans rfl, (blk_cell BK859.out 1).trans rfl, (blk_cell BK859.out 2).trans rfl⟩ (fun hHeld => ?_); refine with_tabW laws_FnExactStrengthsIn.tab24 laws_FnExactStrengthsIn.bits24 (fun HT_ HW_ => ?_)
                      generalize w65.drew = w66 at HO_8 HO_11 BK858 BK859 HB hHeld ⊢
                      refine pure_ (i := 4) (N := some 90) (v := ?_) (a' := ?_) #[false, false, false, false, true, false, false, false, false, false, false, false] rfl rfl (any_of HT_.out (by kernel_rfl)) (fun _ _ _ h => h) (Or.inl ⟨by rfl, ?_⟩) ?_ ?_
                      rotate_left
                      · intro w'
                        go_simp
                        with_reducible rfl
                      rotate_left
                      · simp only [Act.put, List.setIfInBounds_toArray, List.set_cons_zero, List.set_cons_succ, i64_w, i32_w]
                        rfl
                      refine take_ (i := 0) (N := some 86) (v := ?_) (a' := ?_) #[true, false, false, false, true, false, false, false, false, false, false, false] rfl rfl (take_ofW HT_.out HW_.out (by kernel_rfl)) (fun _ _ _ h => h) (Or.inl ⟨by rfl, ?_⟩) hHeld ?_ ?_
                      rotate_left
                      · rintro w' ⟨s0, s1, s2, s3, s4, s5, s6⟩
                        go_simp
                        with_reducible rfl
                      rotate_left
                      · simp only [Act.put, List.setIfInBounds_toArray, List.set_cons_zero, List.set_cons_succ, i64_w, i32_w]
                        rfl
                      refine take_ (i := 2) (N := some 88) (v := ?_) (a' := ?_) #[true, false, true, false, true, false, false, false, false, false, false, false] rfl rfl (take_ofW HT_.out HW_.out (by kernel_rfl)) (fun _ _ _ h => h) (Or.inl ⟨by rfl, ?_⟩) hHeld ?_ ?_
                      rotate_left
                      · rintro w' ⟨s0, s1, s2, s3, s4, s5, s6⟩
                        go_simp
                        with_reducible rfl
                      rotate_left
                      · simp only [Act.put, List.setIfInBounds_toArray, List.set_cons_zero, List.set_cons_succ, i64_w, i32_w]
                        rfl
                      refine one_ (i := 1) (N := some 87) #[true, true, true, false, true, false, false, false, false, false, false, false] rfl rfl (one_of HT_.out (by kernel_rfl)) (by decide) (fun K hK => ?_)
                      refine goes_ Try.func71 (by kernel_rfl) rfl #[.agg #[.int .i64 a0_0, .int .i64 a0_1, .int .i8 a0_2, .int .i8 a0_3]] (by rfl) rfl rfl (by (try simp only [List.map_toArray, List.map_cons, List.map_nil]); first | done | rfl | (simp only [List.length_drop, List.length_take]; rfl)) ?_
                      with_reducible refine (laws_toDeveloper.calls a0_0 a0_1 a0_2 a0_3 t900 t901 t902 t903 _ A59.out).mono ?_
                      rintro e w67 ⟨rfl, hb⟩
                      refine ⟨_, rfl, ?_⟩
                      have n0_ := Aside0.mk (Kd.R_below (by (with_reducible repeat (first | apply Kd.R_alloc | apply Kd.R_drewN | apply Kd.R_drew)); exact HO_8.out) hb)
                      have n1_ := Aside0.mk (Kd.R_below HO_11.out hb)
                      have n2_ := Aside0.mk (blk_below BK858.out hb)
                      have n3_ := Aside0.mk (blk_below BK859.out hb)
                      have n4_ := Aside0.mk (below_step HB.out hb)
                      clear HO_8
                      clear HO_11
                      clear BK858
                      clear BK859
                      clear HB
                      have HO_8 := n0_
                      have HO_11 := n1_
                      have BK858 := n2_
                      have BK859 := n3_
                      have HB := n4_
                      clear n0_ n1_ n2_ n3_ n4_
                      (try clear hb)
                      (try clear hb2)
                      (try clear hk)
                      (try clear hi)
                      refine hK.out _ _ ⟨(blk_cell BK858.out 0).trans rfl, (blk_cell BK858.out 1).trans rfl, (blk_cell BK858.out 2).trans rfl, (blk_cell BK858.out 3).trans rfl, (blk_cell BK859.out 0).trans rfl, (blk_cell BK859.out 1).trans rfl, (blk_cell BK859.out 2).trans rfl⟩ (fun hHeld => ?_)
                      clear hK K
                      refine norm_ (a' := ?_) ?_ ?_
                      rotate_left
                      · show Act.put _ (some 87) _ = _
                        simp only [Act.put, List.setIfInBounds_toArray, List.set_cons_zero, List.set_cons_succ, i64_w, i32_w]
                        rfl
                      refine one_ (i := 3) (N := some 89) #[true, true, true, true, true, false, false, false, false, false, false, false] rfl rfl (one_of HT_.out (by kernel_rfl)) (by decide) (fun K hK => ?_)
                      refine goes_ Try.func72 (by kernel_rfl) rfl #[.agg #[.int .i64 a1_0, .int .i64 a1_1, .int .i64 a1_2]] (by rfl) rfl rfl (by (try simp only [List.map_toArray, List.map_cons, List.map_nil]); first | done | rfl | (simp only [List.length_drop, List.length_take]; rfl)) ?_
                      with_reducible refine (laws_toBath.calls a1_0 a1_1 a1_2 t904 t905 t906 _ A60.out).mono ?_
                      rintro e w68 ⟨rfl, hb⟩
                      refine ⟨_, rfl, ?_⟩
                      have n0_ := Aside0.mk (Kd.R_below (by (with_reducible repeat (first | apply Kd.R_alloc | apply Kd.R_drewN | apply Kd.R_drew)); exact HO_8.out) hb)
                      have n1_ := Aside0.mk (Kd.R_below HO_11.out hb)
                      have n2_ := Aside0.mk (blk_below BK858.out hb)
                      have n3_ := Aside0.mk (blk_below BK859.out hb)
                      have n4_ := Aside0.mk (below_step HB.out hb)
                      clear HO_8
                      clear HO_11
                      clear BK858
                      clear BK859
                      clear HB
                      have HO_8 := n0_
                      have HO_11 := n1_
                      have BK858 := n2_
                      have BK859 := n3_
                      have HB := n4_
                      clear n0_ n1_ n2_ n3_ n4_
                      (try clear hb)
                      (try clear hb2)
                      (try clear hk)
                      (try clear hi)
                      refine hK.out _ _ ⟨(blk_cell BK858.out 0).trans rfl, (blk_cell BK858.out 1).trans rfl, (blk_cell BK858.out 2).trans rfl, (blk_cell BK858.out 3).trans rfl, (blk_cell BK859.out 0).trans rfl, (blk_cell BK859.out 1).trans rfl, (blk_cell BK859.out 2).trans rfl⟩ (fun hHeld => ?_)
                      clear hK K
                      refine norm_ (a' := ?_) ?_ ?_
                      rotate_left
                      · show Act.put _ (some 89) _ = _
                        simp only [Act.put, List.setIfInBounds_toArray, List.set_cons_zero, List.set_cons_succ, i64_w, i32_w]
                        rfl
                      refine one_ (i := 5) (N := some 91) #[true, true, true, true, true, true, false, false, false, false, false, false] rfl rfl (one_of HT_.out (by kernel_rfl)) (by decide) (fun K hK => ?_)
                      refine goes_ Try.func73 (by kernel_rfl) rfl #[.slice A2 l2.length c2] (by rfl) rfl rfl (by (try simp only [List.map_toArray, List.map_cons, List.map_nil]); first | done | rfl | (simp only [List.length_drop, List.length_take]; rfl)) ?_
                      with_reducible refine (laws_toActS.calls kj41 _ _ l2 t907 _ ?side1 ?side2 A61.out).mono ?_
                      (case side1 => repeat (first | exact (Kd.C_below HR2.out HB.out) | (with_reducible refine Kd.C_alloc ?_ _) | (with_reducible refine Kd.C_drewN ?_ _) | (with_reducible refine Kd.C_drew ?_)))
                      (case side2 => exact HC2.out)
                      rintro e w69 ⟨v908, rfl, ho0, hb⟩
                      refine ⟨_, rfl, ?_⟩
                      have n0_ := Aside0.mk (Kd.R_below (by (with_reducible repeat (first | apply Kd.R_alloc | apply Kd.R_drewN | apply Kd.R_drew)); exact HO_8.out) hb)
                      have n1_ := Aside0.mk (Kd.R_below HO_11.out hb)
                      have n2_ := Aside0.mk (Kd.R_lower ho0 (below_size HB.out))
                      have n3_ := Aside0.mk (blk_below BK858.out hb)
                      have n4_ := Aside0.mk (blk_below BK859.out hb)
                      have n5_ := Aside0.mk (below_step HB.out hb)
                      clear HO_8
                      clear HO_11
                      clear BK858
                      clear BK859
                      clear HB
                      have HO_8 := n0_
                      have HO_11 := n1_
                      have HO909 := n2_
                      have BK858 := n3_
                      have BK859 := n4_
                      have HB := n5_
                      clear n0_ n1_ n2_ n3_ n4_ n5_
                      (try clear hb)
                      (try clear hb2)
                      (try clear hk)
                      (try clear hi)
                      (try clear ho0)
                      obtain ⟨Ao70, co70, eo70⟩ := Kd.R_slice HO909.out
                      (first | subst eo70 | (injection eo70 with f1_ f2_ f3_; have f4_ := f1_.symm; have f5_ := f3_.symm; clear f1_ f2_ f3_; subst f4_; subst f5_))
                      refine hK.out _ _ ⟨(blk_cell BK858.out 0).trans rfl, (blk_cell BK858.out 1).trans rfl, (blk_cell BK858.out 2).trans rfl, (blk_cell BK858.out 3).trans rfl, (blk_cell BK859.out 0).trans rfl, (blk_cell BK859.out 1).trans rfl, (blk_cell BK859.out 2).trans rfl⟩ (fun hHeld => ?_)
                      clear hK K
                      refine norm_ (a' := ?_) ?_ ?_
                      rotate_left
                      · show Act.put _ (some 91) _ = _
                        simp only [Act.put, List.setIfInBounds_toArray, List.set_cons_zero, List.set_cons_succ, i64_w, i32_w]
                        rfl
                      refine one_ (i := 6) (N := some 92) #[true, true, true, true, true, true, true, false, false, false, false, false] rfl rfl (one_of HT_.out (by kernel_rfl)) (by decide) (fun K hK => ?_)
                      refine goes_ Try.func80 (by kernel_rfl) rfl #[.agg #[.int .i64 t900, .int .i64 t901, .int .i8 t902, .int .i8 t903], .agg #[.int .i64 t904, .int .i64 t905, .int .i64 t906], .slice Ao70 t907.length co70] (by rfl) rfl rfl (by (try simp only [List.map_toArray, List.map_cons, List.map_nil]); first | done | rfl | (simp only [List.length_drop, List.length_take]; rfl)) ?_
                      with_reducible refine (impl_StrengthsIn.calls kj41 t900 t901 t902 t903 t904 t905 t906 _ _ t907 t910 t913 _ ?side1 ?side2 A62.out).mono ?_
                      (case side1 => repeat (first | exact (Kd.R_reads' HO909.out).2.2 | (with_reducible refine Kd.C_alloc ?_ _) | (with_reducible refine Kd.C_drewN ?_ _) | (with_reducible refine Kd.C_drew ?_)))
                      (case side2 => exact (Kd.R_reads' HO909.out).2.1)
                      rintro e w71 ⟨v911, rfl, ho0, hb⟩
                      refine ⟨_, rfl, ?_⟩
                      have n0_ := Aside0.mk (Kd.R_elder' HO_8.out (Kd.R_base ho0) hb)
                      have n1_ := Aside0.mk (Kd.R_elder' HO_11.out (Kd.R_base ho0) hb)
                      have n2_ := Aside0.mk (Kd.R_below HO909.out hb)
                      have n3_ := Aside0.mk (Kd.R_lower (Kd.R_new' (Kd.R_new' ho0 (Kd.R_lt HO_8.out)) (Kd.R_lt HO_11.out)) (below_size HB.out))
                      have n4_ := Aside0.mk (blk_below BK858.out hb)
                      have n5_ := Aside0.mk (blk_below BK859.out hb)
                      have n6_ := Aside0.mk (below_step HB.out hb)
                      clear HO_8
                      clear HO_11
                      clear HO909
                      clear BK858
                      clear BK859
                      clear HB
                      have HO_8 := n0_
                      have HO_11 := n1_
                      have HO909 := n2_
                      have HO912 := n3_
                      have BK858 := n4_
                      have BK859 := n5_
                      have HB := n6_
                      clear n0_ n1_ n2_ n3_ n4_ n5_ n6_
                      (try clear hb)
                      (try clear hb2)
                      (try clear hk)
                      (try clear hi)
                      (try clear ho0)
                      refine hK.out _ _ ⟨(blk_cell BK858.out 0).trans rfl, (blk_cell BK858.out 1).trans rfl, (blk_cell BK858.out 2).trans rfl, (blk_cell BK858.out 3).trans rfl, (blk_cell BK859.out 0).trans rfl, (blk_cell BK859.out 1).trans rfl, (blk_cell BK859.out 2).trans rfl⟩ (fun hHeld => ?_)
                      clear hK K
                      refine norm_ (a' := ?_) ?_ ?_
                      rotate_left
                      · show Act.put _ (some 92) _ = _
                        simp only [Act.put, List.setIfInBounds_toArray, List.set_cons_zero, List.set_cons_succ, i64_w, i32_w]
                        rfl
                      refine pure_ (i := 7) (N := some 85) (v := ?_) (a' := ?_) #[true, true, true, true, true, true, true, true, false, false, false, false] rfl rfl (any_of HT_.out (by kernel_rfl)) (fun _ _ _ h => h) (Or.inl ⟨by rfl, ?_⟩) ?_ ?_
                      rotate_left
                      · intro w'
                        go_simp
                        with_reducible rfl
                      rotate_left
                      · simp only [Act.put, List.setIfInBounds_toArray, List.set_cons_zero, List.set_cons_succ, i64_w, i32_w]
                        rfl
                      refine pure_ (i := 8) (N := some 93) (v := ?_) (a' := ?_) #[true, true, true, true, true, true, true, true, true, false, false, false] rfl rfl (any_of HT_.out (by kernel_rfl)) (fun _ _ _ h => h) (Or.inl ⟨by rfl, ?_⟩) ?_ ?_
                      rotate_left
                      · intro w'
                        go_simp
                        with_reducible rfl
                      rotate_left
                      · simp only [Act.put, List.setIfInBounds_toArray, List.set_cons_zero, List.set_cons_succ, i64_w, i32_w]
                        rfl
                      refine pure_ (i := 9) (N := some 94) (v := ?_) (a' := ?_) #[true, true, true, true, true, true, true, true, true, true, false, false] rfl rfl (any_of HT_.out (by kernel_rfl)) (fun _ _ _ h => h) (Or.inl ⟨by rfl, ?_⟩) ?_ ?_
                      rotate_left
                      · intro w'
                        go_simp
                        with_reducible rfl
                      rotate_left
                      · simp only [Act.put, List.setIfInBounds_toArray, List.set_cons_zero, List.set_cons_succ, i64_w, i32_w]
                        rfl
                      refine pure_ (i := 10) (N := some 16) (v := ?_) (a' := ?_) #[true, true, true, true, true, true, true, true, true, true, true, false] rfl rfl (any_of HT_.out (by kernel_rfl)) (fun _ _ _ h => h) (Or.inl ⟨by rfl, ?_⟩) ?_ ?_
                      rotate_left
                      · intro w'
                        go_simp
                        with_reducible rfl
                      rotate_left
                      · simp only [Act.put, List.setIfInBounds_toArray, List.set_cons_zero, List.set_cons_succ, i64_w, i32_w]
                        rfl
                      refine pure_ (i := 11) (N := some 17) (v := ?_) (a' := ?_) #[true, true, true, true, true, true, true, true, true, true, true, true] rfl rfl (any_of HT_.out (by kernel_rfl)) (fun _ _ _ h => h) (Or.inl ⟨by rfl, ?_⟩) ?_ ?_
                      rotate_left
                      · intro w'
                        go_simp
                        with_reducible rfl
                      rotate_left
                      · simp only [Act.put, List.setIfInBounds_toArray, List.set_cons_zero, List.set_cons_succ, i64_w, i32_w]
                        rfl
                      refine done_ (done_of HT_.out (by kernel_rfl)) ?_
                      go_upto_region 25 with (fail)
                      go_cut [103] (fun v103 wc => ∃ (kq : Nat) (x103_62 : Bool), v103 = .bool x103_62 ∧ Aside0 (laws_FnExactStrengthsIn.j2 kq t898 t897 x103_62 = some r) ∧ Aside0 (kq ≤ kj41) ∧ Aside0 (Kd.R (Kd.int .i64) 2 wc w.heap.size (fun _ => True) (.slice Ao64 t885.length co64) t898) ∧ Aside0 (wc.heap[gb858]? = some (.cells #[.int .i64 a0_0, .int .i64 a0_1, .int .i8 a0_2, .int .i8 a0_3] 92 (0, 0))) ∧ Aside0 (wc.heap[gb859]? = some (.cells #[.int .i64 a1_0, .int .i64 a1_1, .int .i64 a1_2] 93 (0, 0))) ∧ Aside0 (Below w.heap.size w wc))
                      case first =>
                        have H := HC63.out
                        clear HC63
                        replace H := Option.bind_eq_some_iff.mp H
                        obtain ⟨t914, A720, H⟩ := H
                        replace H : (if t914 = true then (laws_FnExactStrengthsIn.j2 kj41 t898 t897 (t913 != t874)) else (laws_FnExactStrengthsIn.j2 kj41 t898 t897 true)) = some r := H
                        have A72 := Aside0.mk A720
                        clear A720
                        by_cases c73 : t914 = true
                        · subst c73
                          have H1 : (laws_FnExactStrengthsIn.j2 kj41 t898 t897 (t913 != t874)) = some r := by rw [if_pos rfl] at H; exact H
                          clear H
                          have H := H1
                          clear H1
                          have H' := Aside0.mk H
                          clear H
                          obtain ⟨Ao74, co74, eo74⟩ := Kd.R_slice HO912.out
                          subst eo74
                          obtain ⟨Ao75, co75, eo75⟩ := Kd.R_slice HO_8.out
                          subst eo75
                          go_wp2_with (first | ((with_reducible refine gate_callee (f := 32) rfl ?_); refine goesL_ (some 97) rfl rfl Try.func32 (by kernel_rfl) rfl #[.slice Ao74 t910.length co74, .slice Ao75 t871.length co75] rfl (by (try simp only [List.map_toArray, List.map_cons, List.map_nil]); first | done | rfl | (simp only [List.length_drop, List.length_take]; rfl)) ?_; (with_reducible refine (laws_eqInt64S.calls kj41 _ _ t910 _ _ t871 true _ ?side1 ?side2 ?side3 ?side4 A72.out).mono ?_); (case side1 => repeat (first | exact (Kd.R_reads' HO912.out).2.2 | (with_reducible refine Kd.C_alloc ?_ _) | (with_reducible refine Kd.C_drewN ?_ _) | (with_reducible refine Kd.C_drew ?_))); (case side2 => exact (Kd.R_reads' HO912.out).2.1); (case side3 => repeat (first | exact (Kd.R_reads' HO_8.out).2.2 | (with_reducible refine Kd.C_alloc ?_ _) | (with_reducible refine Kd.C_drewN ?_ _) | (with_reducible refine Kd.C_drew ?_))); (case side4 => exact (Kd.R_reads' HO_8.out).2.1); rintro e w' ⟨rfl, ⟨nd, rfl⟩⟩; refine ⟨_, rfl, ?_⟩))
                          go_meet
                          case rel => exact ⟨_, ((t913 != t874)), (by first | rfl | (simp; done) | (simp [*]; done)), H', ⟨by have := HJ15.out; have := HJ41.out; first | omega | exact Nat.le_refl _⟩, ⟨by (with_reducible repeat (first | apply Kd.R_alloc | apply Kd.R_drewN | apply Kd.R_drew)); exact Kd.R_mono HO_11.out (fun _ hk => trivial)⟩, ⟨by (with_reducible repeat (first | refine blk_drewN ?_ _ | refine blk_drew ?_ | refine blk_alloc ?_ _)); exact BK858.out⟩, ⟨by (with_reducible repeat (first | refine blk_drewN ?_ _ | refine blk_drew ?_ | refine blk_alloc ?_ _)); exact BK859.out⟩, ⟨by repeat (first | (with_reducible first | exact HB.out | apply below_alloc | apply pw_below_drewN | apply below_drew1 | refine below_set ?_ GE858.out | refine below_set ?_ GE859.out) | exact HB.out)⟩⟩
                        · replace c73 := Bool.eq_false_iff.mpr c73
                          subst c73
                          have H1 : (laws_FnExactStrengthsIn.j2 kj41 t898 t897 true) = some r := by rw [if_neg (show ¬ (false = true) by decide)] at H; exact H
                          clear H
                          have H := H1
                          clear H1
                          have H' := Aside0.mk H
                          clear H
                          obtain ⟨Ao76, co76, eo76⟩ := Kd.R_slice HO912.out
                          subst eo76
                          obtain ⟨Ao77, co77, eo77⟩ := Kd.R_slice HO_8.out
                          subst eo77
                          go_wp2_with (first | ((with_reducible refine gate_callee (f := 32) rfl ?_); refine goesL_ (some 97) rfl rfl Try.func32 (by kernel_rfl) rfl #[.slice Ao76 t910.length co76, .slice Ao77 t871.length co77] rfl (by (try simp only [List.map_toArray, List.map_cons, List.map_nil]); first | done | rfl | (simp only [List.length_drop, List.length_take]; rfl)) ?_; (with_reducible refine (laws_eqInt64S.calls kj41 _ _ t910 _ _ t871 false _ ?side1 ?side2 ?side3 ?side4 A72.out).mono ?_); (case side1 => repeat (first | exact (Kd.R_reads' HO912.out).2.2 | (with_reducible refine Kd.C_alloc ?_ _) | (with_reducible refine Kd.C_drewN ?_ _) | (with_reducible refine Kd.C_drew ?_))); (case side2 => exact (Kd.R_reads' HO912.out).2.1); (case side3 => repeat (first | exact (Kd.R_reads' HO_8.out).2.2 | (with_reducible refine Kd.C_alloc ?_ _) | (with_reducible refine Kd.C_drewN ?_ _) | (with_reducible refine Kd.C_drew ?_))); (case side4 => exact (Kd.R_reads' HO_8.out).2.1); rintro e w' ⟨rfl, ⟨nd, rfl⟩⟩; refine ⟨_, rfl, ?_⟩))
                          go_meet
                          case rel => exact ⟨_, (true), (by first | rfl | (simp; done) | (simp [*]; done)), H', ⟨by have := HJ15.out; have := HJ41.out; first | omega | exact Nat.le_refl _⟩, ⟨by (with_reducible repeat (first | apply Kd.R_alloc | apply Kd.R_drewN | apply Kd.R_drew)); exact Kd.R_mono HO_11.out (fun _ hk => trivial)⟩, ⟨by (with_reducible repeat (first | refine blk_drewN ?_ _ | refine blk_drew ?_ | refine blk_alloc ?_ _)); exact BK858.out⟩, ⟨by (with_reducible repeat (first | refine blk_drewN ?_ _ | refine blk_drew ?_ | refine blk_alloc ?_ _)); exact BK859.out⟩, ⟨by repeat (first | (with_reducible first | exact HB.out | apply below_alloc | apply pw_below_drewN | apply below_drew1 | refine below_set ?_ GE858.out | refine below_set ?_ GE859.out) | exact HB.out)⟩⟩
                      case rest =>
                        clear HC63
                        try clear c1
                        try clear c2
                        try clear p2
                        try clear c3
                        try clear c4
                        try clear c5
                        try clear c5b0
                        try clear c6
                        try clear c7
                        try clear c8
                        try clear c11
                        try clear c32
                        try clear c35
                        try clear c36
                        try clear c37
                        try clear c40
                        try clear c47
                        try clear c47b0
                        try clear c49
                        try clear c54
                        try clear c57
                        try clear c57b0
                        try clear c58
                        try clear c58b0
                        try clear c58b1
                        try clear c71
                        try clear c72
                        try clear c73
                        try clear c75
                        try clear p2
                        obtain ⟨kq, x103_62, rfl, HA, HJ62, HO_11, BK858, BK859, HB⟩ := hcut
                        have hl11_62 := (Kd.R_reads' HO_11.out).1
                        rw [hl11_62] at HO_11
                        (try simp only [hl11_62])
                        (try simp only [hl11_62] at BK858)
                        (try simp only [hl11_62] at BK859)
                        cases kq with
                        | zero => exact absurd HA.out (by simp [laws_FnExactStrengthsIn.j2])
                        | succ kj62 =>
                          have H := HA.out
                          clear HA
                          simp only [laws_FnExactStrengthsIn.j2] at H
                          by_cases c78 : x103_62 = true
                          · subst c78
                            have H1 : (some false) = some r := by rw [if_pos rfl] at H; exact H
                            clear H
                            have H := H1
                            clear H1
                            exact absurd (Option.some.inj H) (by rw [hT_.out]; decide)
                          · replace c78 := Bool.eq_false_iff.mpr c78
                            subst c78
                            have H1 : ((laws_heldInt64S.f kj62 t898 1).bind fun t915 => (if t915 < 0 then (some false) else (if t915 = t897 then (some true) else (some false)))) = some r := by rw [if_neg (show ¬ (false = true) by decide)] at H; exact H
                            clear H
                            have H := H1
                            clear H1
                            replace H := Option.bind_eq_some_iff.mp H
                            obtain ⟨t915, A790, H⟩ := H
                            replace H : (if t915 < 0 then (some false) else (if t915 = t897 then (some true) else (some false))) = some r := H
                            have A79 := Aside0.mk A790
                            clear A790
                            by_cases c80 : t915 < 0
                            · rw [if_pos c80] at H
                              have c80b0 : decide (t915 < 0) = true := decide_eq_true c80
                              clear c80
                              exact absurd (Option.some.inj H) (by rw [hT_.out]; decide)
                            · rw [if_neg c80] at H
                              have c80b0 : decide (t915 < 0) = false := decide_eq_false c80
                              clear c80
                              by_cases c81 : t915 = t897
                              · rw [if_pos c81] at H
                                have c81b0 : (t915 == t897) = true := beq_iff_eq.mpr c81
                                have c81b1 : (t915 != t897) = false := bne_eq_false_iff_eq.mpr c81
                                clear c81
                                obtain rfl := Option.some.inj H
                                go_wp2_with (first | ((with_reducible refine gate_callee (f := 36) rfl ?_); refine goesL_ (some 106) rfl rfl Try.func36 (by kernel_rfl) rfl #[.slice Ao64 t898.length co64, .int .i64 1] rfl (by (try simp only [List.map_toArray, List.map_cons, List.map_nil]); first | done | rfl | (simp only [List.length_drop, List.length_take]; rfl)) ?_; (with_reducible refine (laws_heldInt64S.calls kj62 _ _ t898 1 t915 _ ?side1 ?side2 A79.out).mono ?_); (case side1 => repeat (first | exact (Kd.R_reads' HO_11.out).2.2 | (with_reducible refine Kd.C_alloc ?_ _) | (with_reducible refine Kd.C_drewN ?_ _) | (with_reducible refine Kd.C_drew ?_))); (case side2 => exact (Kd.R_reads' HO_11.out).2.1); rintro e w' ⟨rfl, ⟨nd, rfl⟩⟩; refine ⟨_, rfl, ?_⟩))
                                go_ret
                                exact ⟨by first | rfl | (simp [errW_none, errW_some] <;> rfl) | (simp [*, errW_none, errW_some] <;> rfl), by repeat (first | (with_reducible first | exact HB.out | apply below_alloc | apply pw_below_drewN | apply below_drew1 | refine below_set ?_ GE858.out | refine below_set ?_ GE859.out) | exact HB.out)⟩
                              · rw [if_neg c81] at H
                                have c81b0 : (t915 == t897) = false := beq_eq_false_iff_ne.mpr c81
                                have c81b1 : (t915 != t897) = true := bne_iff_ne.mpr c81
                                exact absurd (Option.some.inj H) (by rw [hT_.out]; decide)
                    · rw [if_neg c58] at H
                      have c58b0 : (t899 == t897) = false := beq_eq_false_iff_ne.mpr c58
                      have c58b1 : (t899 != t897) = true := bne_iff_ne.mpr c58
                      exact absurd (Option.some.inj H) (by rw [hT_.out]; decide)
          · replace c40 := Bool.eq_false_iff.mpr c40
            subst c40
            have H1 : (some false) = some r := by rw [if_neg (show ¬ (false = true) by decide)] at H; exact H
            clear H
            have H := H1
            clear H1
            exact absurd (Option.some.inj H) (by rw [hT_.out]; decide)

end Go.Proofs.Ytcimollhdocphaa.Q
