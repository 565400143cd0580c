-- Written by wip/mk.py of this repository (a run of the kit's print with hand-proved leaves added); Lean checks it.
import Derived.Test.YtiehbagnebjadaaGreatDoorQx0
import Derived.Test.YtiehbagnebjadaaGreatDoorQx1
import Derived.Test.YtiehbagnebjadaaGreatDoorQx5
import Derived.Test.YtiehbagnebjadaaGreatDoorQx9
import Derived.Test.YtiehbagnebjadaaGreatDoorQx10
import Derived.Test.YtiehbagnebjadaaGreatDoorQx11
namespace Go.Proofs.YtiehbagnebjadaaGreatDoor.Q
open Go.RowKit Go.Proofs.YtiehbagnebjadaaGreatDoorW.PrintWords Go.Proofs.YtiehbagnebjadaaGreatDoorW.PrintLast Go.Proofs.YtiehbagnebjadaaGreatDoorW.PrintMore
attribute [local go_sem] max2_int min2_int max_two min_two max_three min_three max_four min_four   -- for this text's walks alone
set_option linter.unusedVariables false
set_option linter.unusedSimpArgs false

/-! ### laws_FnExactReadLog: function 3 -/
mutual
def laws_FnExactReadLog.j0 : Nat → ByteArray → List (S116) → List (S89) → Int → List (S116) → List (S89) → Bool → Option (Bool)
  | 0, _, _, _, _, _, _, _ => none
  | k + 1, x0, x3, x4, x5, x6, x7, x43 => if x43 = true then (some false) else ((laws_markCurve.f k x6 1).bind fun bt295 => ((laws_markStepS.f k x7 bt295.1).bind fun bt297 => ((laws_heldCurve.f k bt295.2 1).bind fun t299 => (if t299 < 0 then (some false) else ((laws_heldStepS.f k bt297.2 t299).bind fun t300 => (if t300 < 0 then (some false) else (if t300 = bt297.1 then ((impl_ReadLog.f x0).bind fun bt301 => ((laws_eqCurve.f k bt301.1 x3).bind fun t308 => (if t308 = true then ((laws_eqStepS.f k bt301.2.1 x4).bind fun t309 => (if t309 = true then (laws_FnExactReadLog.j1 k bt295.2 bt297.2 bt297.1 (bt301.2.2 != x5)) else (laws_FnExactReadLog.j1 k bt295.2 bt297.2 bt297.1 true))) else (laws_FnExactReadLog.j1 k bt295.2 bt297.2 bt297.1 true)))) else (some false))))))))
def laws_FnExactReadLog.j1 : Nat → List (S116) → List (S89) → Int → Bool → Option (Bool)
  | 0, _, _, _, _ => none
  | k + 1, x6, x7, x9, x83 => if x83 = true then (some false) else ((laws_heldCurve.f k x6 1).bind fun t310 => (if t310 < 0 then (some false) else ((laws_heldStepS.f k x7 t310).bind fun t311 => (if t311 < 0 then (some false) else (if t311 = x9 then (some true) else (some false))))))
end
def laws_FnExactReadLog.f (k : Nat) (a0 : ByteArray) : Option (Bool) := if (a0.size : Int) > 1048576 then (some true) else ((spec_ReadLog.f k a0).bind fun bt279 => ((impl_ReadLog.f a0).bind fun bt286 => ((laws_eqCurve.f k bt286.1 bt279.1).bind fun t293 => (if t293 = true then ((laws_eqStepS.f k bt286.2.1 bt279.2.1).bind fun t294 => (if t294 = true then (laws_FnExactReadLog.j0 k a0 bt279.1 bt279.2.1 bt279.2.2 bt286.1 bt286.2.1 (bt286.2.2 != bt279.2.2)) else (laws_FnExactReadLog.j0 k a0 bt279.1 bt279.2.1 bt279.2.2 bt286.1 bt286.2.1 true))) else (laws_FnExactReadLog.j0 k a0 bt279.1 bt279.2.1 bt279.2.2 bt286.1 bt286.2.1 true)))))
theorem laws_FnExactReadLog.mono_l : ∀ k, (∀ y0 y1 y2 y3 y4 y5 y6, LeO (laws_FnExactReadLog.j0 k y0 y1 y2 y3 y4 y5 y6) (laws_FnExactReadLog.j0 (k + 1) y0 y1 y2 y3 y4 y5 y6)) ∧ (∀ y0 y1 y2 y3, LeO (laws_FnExactReadLog.j1 k y0 y1 y2 y3) (laws_FnExactReadLog.j1 (k + 1) y0 y1 y2 y3))
  | 0 => ⟨fun _ _ _ _ _ _ _ r h => by simp [laws_FnExactReadLog.j0] at h, fun _ _ _ _ r h => by simp [laws_FnExactReadLog.j1] at h⟩
  | k + 1 => by
    obtain ⟨ih0, ih1⟩ := laws_FnExactReadLog.mono_l k
    refine ⟨?_, ?_⟩
    · intro y0 y1 y2 y3 y4 y5 y6
      unfold laws_FnExactReadLog.j0
      repeat' first
      | (with_reducible exact ih0 _ _ _ _ _ _ _)
      | (with_reducible exact ih1 _ _ _ _)
      | (with_reducible exact laws_eqCurve.mono _ _ _)
      | (with_reducible exact laws_eqStepS.mono _ _ _)
      | (with_reducible exact laws_heldCurve.mono _ _ _)
      | (with_reducible exact laws_heldStepS.mono _ _ _)
      | (with_reducible exact laws_markCurve.mono _ _ _)
      | (with_reducible exact laws_markStepS.mono _ _ _)
      | (with_reducible exact spec_ReadLog.mono _ _)
      | (with_reducible exact LeO.refl _)
      | (with_reducible exact LeO.none _)
      | (with_reducible refine LeO.ite ?_ ?_)
      | (with_reducible refine LeO.bind ?_ (fun _ => ?_))
      | exact ih0 _ _ _ _ _ _ _
      | exact ih1 _ _ _ _
      | exact laws_eqCurve.mono _ _ _
      | exact laws_eqStepS.mono _ _ _
      | exact laws_heldCurve.mono _ _ _
      | exact laws_heldStepS.mono _ _ _
      | exact laws_markCurve.mono _ _ _
      | exact laws_markStepS.mono _ _ _
      | exact spec_ReadLog.mono _ _
      | exact LeO.none _
      | refine LeO.ite ?_ ?_
      | refine LeO.bind ?_ (fun _ => ?_)
    · intro y0 y1 y2 y3
      unfold laws_FnExactReadLog.j1
      repeat' first
      | (with_reducible exact ih0 _ _ _ _ _ _ _)
      | (with_reducible exact ih1 _ _ _ _)
      | (with_reducible exact laws_eqCurve.mono _ _ _)
      | (with_reducible exact laws_eqStepS.mono _ _ _)
      | (with_reducible exact laws_heldCurve.mono _ _ _)
      | (with_reducible exact laws_heldStepS.mono _ _ _)
      | (with_reducible exact laws_markCurve.mono _ _ _)
      | (with_reducible exact laws_markStepS.mono _ _ _)
      | (with_reducible exact spec_ReadLog.mono _ _)
      | (with_reducible exact LeO.refl _)
      | (with_reducible exact LeO.none _)
      | (with_reducible refine LeO.ite ?_ ?_)
      | (with_reducible refine LeO.bind ?_ (fun _ => ?_))
      | exact ih0 _ _ _ _ _ _ _
      | exact ih1 _ _ _ _
      | exact laws_eqCurve.mono _ _ _
      | exact laws_eqStepS.mono _ _ _
      | exact laws_heldCurve.mono _ _ _
      | exact laws_heldStepS.mono _ _ _
      | exact laws_markCurve.mono _ _ _
      | exact laws_markStepS.mono _ _ _
      | exact spec_ReadLog.mono _ _
      | exact LeO.none _
      | refine LeO.ite ?_ ?_
      | refine LeO.bind ?_ (fun _ => ?_)
theorem laws_FnExactReadLog.mono : ∀ a0 k, LeO (laws_FnExactReadLog.f k a0) (laws_FnExactReadLog.f (k + 1) a0) := by
  intro a0 k
  obtain ⟨ih0, ih1⟩ := laws_FnExactReadLog.mono_l k
  unfold laws_FnExactReadLog.f
  repeat' first
      | (with_reducible exact ih0 _ _ _ _ _ _ _)
      | (with_reducible exact ih1 _ _ _ _)
      | (with_reducible exact laws_eqCurve.mono _ _ _)
      | (with_reducible exact laws_eqStepS.mono _ _ _)
      | (with_reducible exact laws_heldCurve.mono _ _ _)
      | (with_reducible exact laws_heldStepS.mono _ _ _)
      | (with_reducible exact laws_markCurve.mono _ _ _)
      | (with_reducible exact laws_markStepS.mono _ _ _)
      | (with_reducible exact spec_ReadLog.mono _ _)
      | (with_reducible exact LeO.refl _)
      | (with_reducible exact LeO.none _)
      | (with_reducible refine LeO.ite ?_ ?_)
      | (with_reducible refine LeO.bind ?_ (fun _ => ?_))
      | exact ih0 _ _ _ _ _ _ _
      | exact ih1 _ _ _ _
      | exact laws_eqCurve.mono _ _ _
      | exact laws_eqStepS.mono _ _ _
      | exact laws_heldCurve.mono _ _ _
      | exact laws_heldStepS.mono _ _ _
      | exact laws_markCurve.mono _ _ _
      | exact laws_markStepS.mono _ _ _
      | exact spec_ReadLog.mono _ _
      | exact LeO.none _
      | refine LeO.ite ?_ ?_
      | refine LeO.bind ?_ (fun _ => ?_)
set_option maxHeartbeats 8000000 in
set_option maxRecDepth 100000 in
theorem laws_FnExactReadLog.calls (k : Nat) (a0 : ByteArray) (r : Bool) (w : World) (h : laws_FnExactReadLog.f k a0 = some r) (hT_ : Aside0 (r = true)) (hT10 : Tab10 w) :
    Calls Tryz.prog 3 #[.string a0] w fun e w' => e = .returned (.bool r) ∧ Below w.heap.size w w' := by
  have HT10 := Aside0.mk hT10
  clear hT10
  have HB := Aside0.mk (Below.refl w.heap.size w)
  have H : (if (a0.size : Int) > 1048576 then (some true) else ((spec_ReadLog.f k a0).bind fun bt279 => ((impl_ReadLog.f a0).bind fun bt286 => ((laws_eqCurve.f k bt286.1 bt279.1).bind fun t293 => (if t293 = true then ((laws_eqStepS.f k bt286.2.1 bt279.2.1).bind fun t294 => (if t294 = true then (laws_FnExactReadLog.j0 k a0 bt279.1 bt279.2.1 bt279.2.2 bt286.1 bt286.2.1 (bt286.2.2 != bt279.2.2)) else (laws_FnExactReadLog.j0 k a0 bt279.1 bt279.2.1 bt279.2.2 bt286.1 bt286.2.1 true))) else (laws_FnExactReadLog.j0 k a0 bt279.1 bt279.2.1 bt279.2.2 bt286.1 bt286.2.1 true)))))) = some r := h
  clear h
  by_cases c2 : (a0.size : Int) > 1048576
  · rw [if_pos c2] at H
    have c2b0 : decide (1048576 < (a0.size : Int)) = true := decide_eq_true c2
    have c2b1 : decide (1048576 < a0.size) = true := decide_eq_true (by omega)
    clear c2
    obtain rfl := Option.some.inj H
    go_enter Tryz.func3, Tryz.ntmps3
    go_wp2
    go_ret
    exact ⟨by first | rfl | (simp [errW_none, errW_some] <;> rfl) | (simp [*, errW_none, errW_some] <;> rfl), by repeat (first | (with_reducible first | exact HB.out | apply below_alloc | apply pw_below_drewN | apply below_drew1) | exact HB.out)⟩
  · rw [if_neg c2] at H
    have c2b0 : decide (1048576 < (a0.size : Int)) = false := decide_eq_false c2
    have c2b1 : decide (1048576 < a0.size) = false := decide_eq_false (by omega)
    clear c2
    replace H := Option.bind_eq_some_iff.mp H
    obtain ⟨⟨t279, t280, t281⟩, A30, H⟩ := H
    replace H : ((impl_ReadLog.f a0).bind fun bt286 => ((laws_eqCurve.f k bt286.1 t279).bind fun t293 => (if t293 = true then ((laws_eqStepS.f k bt286.2.1 t280).bind fun t294 => (if t294 = true then (laws_FnExactReadLog.j0 k a0 t279 t280 t281 bt286.1 bt286.2.1 (bt286.2.2 != t281)) else (laws_FnExactReadLog.j0 k a0 t279 t280 t281 bt286.1 bt286.2.1 true))) else (laws_FnExactReadLog.j0 k a0 t279 t280 t281 bt286.1 bt286.2.1 true)))) = some r := H
    have A3 := Aside0.mk A30
    clear A30
    replace H := Option.bind_eq_some_iff.mp H
    obtain ⟨⟨t286, t287, t288⟩, A40, H⟩ := H
    replace H : ((laws_eqCurve.f k t286 t279).bind fun t293 => (if t293 = true then ((laws_eqStepS.f k t287 t280).bind fun t294 => (if t294 = true then (laws_FnExactReadLog.j0 k a0 t279 t280 t281 t286 t287 (t288 != t281)) else (laws_FnExactReadLog.j0 k a0 t279 t280 t281 t286 t287 true))) else (laws_FnExactReadLog.j0 k a0 t279 t280 t281 t286 t287 true))) = some r := H
    have A4 := Aside0.mk A40
    clear A40
    have HC5 := Aside0.mk H
    clear H
    go_enter Tryz.func3, Tryz.ntmps3
    go_upto_region 5 with (first | ((with_reducible refine gate_callee (f := 8) rfl ?_); refine goesL_ (some 19) rfl rfl Tryz.func8 (by kernel_rfl) rfl #[.string a0] rfl (by (try simp only [List.map_toArray, List.map_cons, List.map_nil]); first | done | rfl | (simp only [List.length_drop, List.length_take]; rfl)) ?_; (with_reducible refine (spec_ReadLog.calls k a0 t279 t280 t281 _ A3.out).mono ?_); rintro e w6 ⟨v282, v284, rfl, ho0, ho1, hb⟩; refine ⟨_, rfl, ?_⟩; have n0_ := Aside0.mk (Kd.R_lower ho0 (below_size HB.out)); have n1_ := Aside0.mk (Kd.R_lower ho1 (below_size HB.out)); have n2_ := Aside0.mk (below_step HB.out hb); clear HB; have HO283 := n0_; have HO285 := n1_; have HB := n2_; clear n0_ n1_ n2_; (try clear hb); (try clear hb2); (try clear hk); (try clear hi); (try clear ho0); (try clear ho1)) | ((with_reducible refine gate_callee (f := 9) rfl ?_); refine goesL_ (some 25) rfl rfl Tryz.func9 (by kernel_rfl) rfl #[.string a0] rfl (by (try simp only [List.map_toArray, List.map_cons, List.map_nil]); first | done | rfl | (simp only [List.length_drop, List.length_take]; rfl)) ?_; (with_reducible refine (impl_ReadLog.calls a0 t286 t287 t288 _ A4.out (by repeat (first | exact HT10.out.below HB.out | exact HT10.out | exact HT10.out.below (by repeat (first | (with_reducible first | exact HB.out | apply below_alloc | apply pw_below_drewN | apply below_drew1) | refine below_set ?_ (Aside0.out (by assumption)) | exact HB.out)) | refine Tab10.alloc ?_ _ | refine Tab10.drewN ?_ _ | refine Tab10.drew ?_))).mono ?_); rintro e w7 ⟨v289, v291, rfl, ho0, ho1, hb⟩; refine ⟨_, rfl, ?_⟩; have n0_ := Aside0.mk (Kd.R_elder' HO283.out (Kd.R_base ho0) hb); have n1_ := Aside0.mk (Kd.R_elder' HO285.out (Kd.R_base ho1) hb); have n2_ := Aside0.mk (Kd.R_lower (Kd.R_new' ho0 (Kd.R_lt HO283.out)) (below_size HB.out)); have n3_ := Aside0.mk (Kd.R_lower (Kd.R_new' ho1 (Kd.R_lt HO285.out)) (below_size HB.out)); have n4_ := Aside0.mk (below_step HB.out hb); clear HO283; clear HO285; clear HB; have HO283 := n0_; have HO285 := n1_; have HO290 := n2_; have HO292 := n3_; have HB := n4_; clear n0_ n1_ n2_ n3_ n4_; (try clear hb); (try clear hb2); (try clear hk); (try clear hi); (try clear ho0); (try clear ho1)))
    (try simp only [Act.put, List.setIfInBounds_toArray, List.set_cons_zero, List.set_cons_succ])
    go_cut [43] (fun v43 wc => ∃ (kq : Nat) (x43_4 : Bool), v43 = .bool x43_4 ∧ Aside0 (laws_FnExactReadLog.j0 kq a0 t279 t280 t281 t286 t287 x43_4 = some r) ∧ Aside0 (kq ≤ k) ∧ Aside0 (Kd.R k116 116 wc w.heap.size (fun k_ => some k_ ≠ (v289 : Value).ownBlock) v282 t279) ∧ Aside0 (Kd.R k89 89 wc w.heap.size (fun k_ => some k_ ≠ (v291 : Value).ownBlock) v284 t280) ∧ Aside0 (Kd.R k116 116 wc w.heap.size (fun k_ => some k_ ≠ (v282 : Value).ownBlock) v289 t286) ∧ Aside0 (Kd.R k89 89 wc w.heap.size (fun k_ => some k_ ≠ (v284 : Value).ownBlock) v291 t287) ∧ Aside0 (Below w.heap.size w wc))
    case first =>
      have H := HC5.out
      clear HC5
      replace H := Option.bind_eq_some_iff.mp H
      obtain ⟨t293, A80, H⟩ := H
      replace H : (if t293 = true then ((laws_eqStepS.f k t287 t280).bind fun t294 => (if t294 = true then (laws_FnExactReadLog.j0 k a0 t279 t280 t281 t286 t287 (t288 != t281)) else (laws_FnExactReadLog.j0 k a0 t279 t280 t281 t286 t287 true))) else (laws_FnExactReadLog.j0 k a0 t279 t280 t281 t286 t287 true)) = some r := H
      have A8 := Aside0.mk A80
      clear A80
      by_cases c9 : t293 = true
      · subst c9
        have H1 : ((laws_eqStepS.f k t287 t280).bind fun t294 => (if t294 = true then (laws_FnExactReadLog.j0 k a0 t279 t280 t281 t286 t287 (t288 != t281)) else (laws_FnExactReadLog.j0 k a0 t279 t280 t281 t286 t287 true))) = some r := by rw [if_pos rfl] at H; exact H
        clear H
        have H := H1
        clear H1
        replace H := Option.bind_eq_some_iff.mp H
        obtain ⟨t294, A100, H⟩ := H
        replace H : (if t294 = true then (laws_FnExactReadLog.j0 k a0 t279 t280 t281 t286 t287 (t288 != t281)) else (laws_FnExactReadLog.j0 k a0 t279 t280 t281 t286 t287 true)) = some r := H
        have A10 := Aside0.mk A100
        clear A100
        by_cases c11 : t294 = true
        · subst c11
          have H1 : (laws_FnExactReadLog.j0 k a0 t279 t280 t281 t286 t287 (t288 != t281)) = some r := by rw [if_pos rfl] at H; exact H
          clear H
          have H := H1
          clear H1
          have H' := Aside0.mk H
          clear H
          obtain ⟨Ao12, co12, eo12⟩ := Kd.R_slice HO290.out
          subst eo12
          obtain ⟨Ao13, co13, eo13⟩ := Kd.R_slice HO283.out
          subst eo13
          go_wp2_with (first | ((with_reducible refine gate_callee (f := 10) rfl ?_); refine goesL_ (some 31) rfl rfl Tryz.func10 (by kernel_rfl) rfl #[.slice Ao12 t286.length co12, .slice Ao13 t279.length co13] rfl (by (try simp only [List.map_toArray, List.map_cons, List.map_nil]); first | done | rfl | (simp only [List.length_drop, List.length_take]; rfl)) ?_; (with_reducible refine (laws_eqCurve.calls k _ _ t286 _ _ t279 true _ ?side1 ?side2 ?side3 ?side4 A8.out).mono ?_); (case side1 => repeat (first | exact (Kd.R_reads' HO290.out).2.2 | (with_reducible refine Kd.C_alloc ?_ _) | (with_reducible refine Kd.C_drewN ?_ _) | (with_reducible refine Kd.C_drew ?_))); (case side2 => exact (Kd.R_reads' HO290.out).2.1); (case side3 => repeat (first | exact (Kd.R_reads' HO283.out).2.2 | (with_reducible refine Kd.C_alloc ?_ _) | (with_reducible refine Kd.C_drewN ?_ _) | (with_reducible refine Kd.C_drew ?_))); (case side4 => exact (Kd.R_reads' HO283.out).2.1); rintro e w14 ⟨rfl, hb⟩; refine ⟨_, rfl, ?_⟩; have n0_ := Aside0.mk (Kd.R_below HO283.out hb); have n1_ := Aside0.mk (Kd.R_below HO285.out hb); have n2_ := Aside0.mk (Kd.R_below HO290.out hb); have n3_ := Aside0.mk (Kd.R_below HO292.out hb); have n4_ := Aside0.mk (below_step HB.out hb); clear HO283; clear HO285; clear HO290; clear HO292; clear HB; have HO283 := n0_; have HO285 := n1_; have HO290 := n2_; have HO292 := n3_; have HB := n4_; clear n0_ n1_ n2_ n3_ n4_; (try clear hb); (try clear hb2); (try clear hk); (try clear hi); obtain ⟨Ao15, co15, eo15⟩ := Kd.R_slice HO292.out; subst eo15; obtain ⟨Ao16, co16, eo16⟩ := Kd.R_slice HO285.out; subst eo16) | (go_at_call 11; (with_reducible refine (laws_eqStepS.calls k _ _ t287 _ _ t280 true _ ?side1 ?side2 ?side3 ?side4 A10.out).mono ?_); (case side1 => repeat (first | exact (Kd.R_reads' HO292.out).2.2 | (with_reducible refine Kd.C_alloc ?_ _) | (with_reducible refine Kd.C_drewN ?_ _) | (with_reducible refine Kd.C_drew ?_))); (case side2 => exact (Kd.R_reads' HO292.out).2.1); (case side3 => repeat (first | exact (Kd.R_reads' HO285.out).2.2 | (with_reducible refine Kd.C_alloc ?_ _) | (with_reducible refine Kd.C_drewN ?_ _) | (with_reducible refine Kd.C_drew ?_))); (case side4 => exact (Kd.R_reads' HO285.out).2.1); rintro e w17 ⟨rfl, hb⟩; have n0_ := Aside0.mk (Kd.R_below HO283.out hb); have n1_ := Aside0.mk (Kd.R_below HO285.out hb); have n2_ := Aside0.mk (Kd.R_below HO290.out hb); have n3_ := Aside0.mk (Kd.R_below HO292.out hb); have n4_ := Aside0.mk (below_step HB.out hb); clear HO283; clear HO285; clear HO290; clear HO292; clear HB; have HO283 := n0_; have HO285 := n1_; have HO290 := n2_; have HO292 := n3_; have HB := n4_; clear n0_ n1_ n2_ n3_ n4_; (try clear hb); (try clear hb2); (try clear hk); (try clear hi)))
          go_meet
          case rel => exact ⟨_, ((t288 != t281)), (by first | rfl | (simp; done) | (simp [*]; done)), H', ⟨by first | omega | exact Nat.le_refl _⟩, ⟨by (with_reducible repeat (first | apply Kd.R_alloc | apply Kd.R_drewN | apply Kd.R_drew)); exact Kd.R_mono HO283.out (fun _ hk => hk.2)⟩, ⟨by (with_reducible repeat (first | apply Kd.R_alloc | apply Kd.R_drewN | apply Kd.R_drew)); exact Kd.R_mono HO285.out (fun _ hk => hk.2)⟩, ⟨by (with_reducible repeat (first | apply Kd.R_alloc | apply Kd.R_drewN | apply Kd.R_drew)); exact Kd.R_mono HO290.out (fun _ hk => hk.2)⟩, ⟨by (with_reducible repeat (first | apply Kd.R_alloc | apply Kd.R_drewN | apply Kd.R_drew)); exact Kd.R_mono HO292.out (fun _ hk => hk.2)⟩, ⟨by repeat (first | (with_reducible first | exact HB.out | apply below_alloc | apply pw_below_drewN | apply below_drew1) | exact HB.out)⟩⟩
        · replace c11 := Bool.eq_false_iff.mpr c11
          subst c11
          have H1 : (laws_FnExactReadLog.j0 k a0 t279 t280 t281 t286 t287 true) = some r := by rw [if_neg (show ¬ (false = true) by decide)] at H; exact H
          clear H
          have H := H1
          clear H1
          have H' := Aside0.mk H
          clear H
          obtain ⟨Ao18, co18, eo18⟩ := Kd.R_slice HO290.out
          subst eo18
          obtain ⟨Ao19, co19, eo19⟩ := Kd.R_slice HO283.out
          subst eo19
          go_wp2_with (first | ((with_reducible refine gate_callee (f := 10) rfl ?_); refine goesL_ (some 31) rfl rfl Tryz.func10 (by kernel_rfl) rfl #[.slice Ao18 t286.length co18, .slice Ao19 t279.length co19] rfl (by (try simp only [List.map_toArray, List.map_cons, List.map_nil]); first | done | rfl | (simp only [List.length_drop, List.length_take]; rfl)) ?_; (with_reducible refine (laws_eqCurve.calls k _ _ t286 _ _ t279 true _ ?side1 ?side2 ?side3 ?side4 A8.out).mono ?_); (case side1 => repeat (first | exact (Kd.R_reads' HO290.out).2.2 | (with_reducible refine Kd.C_alloc ?_ _) | (with_reducible refine Kd.C_drewN ?_ _) | (with_reducible refine Kd.C_drew ?_))); (case side2 => exact (Kd.R_reads' HO290.out).2.1); (case side3 => repeat (first | exact (Kd.R_reads' HO283.out).2.2 | (with_reducible refine Kd.C_alloc ?_ _) | (with_reducible refine Kd.C_drewN ?_ _) | (with_reducible refine Kd.C_drew ?_))); (case side4 => exact (Kd.R_reads' HO283.out).2.1); rintro e w20 ⟨rfl, hb⟩; refine ⟨_, rfl, ?_⟩; have n0_ := Aside0.mk (Kd.R_below HO283.out hb); have n1_ := Aside0.mk (Kd.R_below HO285.out hb); have n2_ := Aside0.mk (Kd.R_below HO290.out hb); have n3_ := Aside0.mk (Kd.R_below HO292.out hb); have n4_ := Aside0.mk (below_step HB.out hb); clear HO283; clear HO285; clear HO290; clear HO292; clear HB; have HO283 := n0_; have HO285 := n1_; have HO290 := n2_; have HO292 := n3_; have HB := n4_; clear n0_ n1_ n2_ n3_ n4_; (try clear hb); (try clear hb2); (try clear hk); (try clear hi); obtain ⟨Ao21, co21, eo21⟩ := Kd.R_slice HO292.out; subst eo21; obtain ⟨Ao22, co22, eo22⟩ := Kd.R_slice HO285.out; subst eo22) | (go_at_call 11; (with_reducible refine (laws_eqStepS.calls k _ _ t287 _ _ t280 false _ ?side1 ?side2 ?side3 ?side4 A10.out).mono ?_); (case side1 => repeat (first | exact (Kd.R_reads' HO292.out).2.2 | (with_reducible refine Kd.C_alloc ?_ _) | (with_reducible refine Kd.C_drewN ?_ _) | (with_reducible refine Kd.C_drew ?_))); (case side2 => exact (Kd.R_reads' HO292.out).2.1); (case side3 => repeat (first | exact (Kd.R_reads' HO285.out).2.2 | (with_reducible refine Kd.C_alloc ?_ _) | (with_reducible refine Kd.C_drewN ?_ _) | (with_reducible refine Kd.C_drew ?_))); (case side4 => exact (Kd.R_reads' HO285.out).2.1); rintro e w23 ⟨rfl, hb⟩; have n0_ := Aside0.mk (Kd.R_below HO283.out hb); have n1_ := Aside0.mk (Kd.R_below HO285.out hb); have n2_ := Aside0.mk (Kd.R_below HO290.out hb); have n3_ := Aside0.mk (Kd.R_below HO292.out hb); have n4_ := Aside0.mk (below_step HB.out hb); clear HO283; clear HO285; clear HO290; clear HO292; clear HB; have HO283 := n0_; have HO285 := n1_; have HO290 := n2_; have HO292 := n3_; have HB := n4_; clear n0_ n1_ n2_ n3_ n4_; (try clear hb); (try clear hb2); (try clear hk); (try clear hi)))
          go_meet
          case rel => exact ⟨_, (true), (by first | rfl | (simp; done) | (simp [*]; done)), H', ⟨by first | omega | exact Nat.le_refl _⟩, ⟨by (with_reducible repeat (first | apply Kd.R_alloc | apply Kd.R_drewN | apply Kd.R_drew)); exact Kd.R_mono HO283.out (fun _ hk => hk.2)⟩, ⟨by (with_reducible repeat (first | apply Kd.R_alloc | apply Kd.R_drewN | apply Kd.R_drew)); exact Kd.R_mono HO285.out (fun _ hk => hk.2)⟩, ⟨by (with_reducible repeat (first | apply Kd.R_alloc | apply Kd.R_drewN | apply Kd.R_drew)); exact Kd.R_mono HO290.out (fun _ hk => hk.2)⟩, ⟨by (with_reducible repeat (first | apply Kd.R_alloc | apply Kd.R_drewN | apply Kd.R_drew)); exact Kd.R_mono HO292.out (fun _ hk => hk.2)⟩, ⟨by repeat (first | (with_reducible first | exact HB.out | apply below_alloc | apply pw_below_drewN | apply below_drew1) | exact HB.out)⟩⟩
      · replace c9 := Bool.eq_false_iff.mpr c9
        subst c9
        have H1 : (laws_FnExactReadLog.j0 k a0 t279 t280 t281 t286 t287 true) = some r := by rw [if_neg (show ¬ (false = true) by decide)] at H; exact H
        clear H
        have H := H1
        clear H1
        have H' := Aside0.mk H
        clear H
        obtain ⟨Ao24, co24, eo24⟩ := Kd.R_slice HO290.out
        subst eo24
        obtain ⟨Ao25, co25, eo25⟩ := Kd.R_slice HO283.out
        subst eo25
        go_wp2_with (first | ((with_reducible refine gate_callee (f := 10) rfl ?_); refine goesL_ (some 31) rfl rfl Tryz.func10 (by kernel_rfl) rfl #[.slice Ao24 t286.length co24, .slice Ao25 t279.length co25] rfl (by (try simp only [List.map_toArray, List.map_cons, List.map_nil]); first | done | rfl | (simp only [List.length_drop, List.length_take]; rfl)) ?_; (with_reducible refine (laws_eqCurve.calls k _ _ t286 _ _ t279 false _ ?side1 ?side2 ?side3 ?side4 A8.out).mono ?_); (case side1 => repeat (first | exact (Kd.R_reads' HO290.out).2.2 | (with_reducible refine Kd.C_alloc ?_ _) | (with_reducible refine Kd.C_drewN ?_ _) | (with_reducible refine Kd.C_drew ?_))); (case side2 => exact (Kd.R_reads' HO290.out).2.1); (case side3 => repeat (first | exact (Kd.R_reads' HO283.out).2.2 | (with_reducible refine Kd.C_alloc ?_ _) | (with_reducible refine Kd.C_drewN ?_ _) | (with_reducible refine Kd.C_drew ?_))); (case side4 => exact (Kd.R_reads' HO283.out).2.1); rintro e w26 ⟨rfl, hb⟩; refine ⟨_, rfl, ?_⟩; have n0_ := Aside0.mk (Kd.R_below (by (with_reducible repeat (first | apply Kd.R_alloc | apply Kd.R_drewN | apply Kd.R_drew)); exact HO283.out) hb); have n1_ := Aside0.mk (Kd.R_below (by (with_reducible repeat (first | apply Kd.R_alloc | apply Kd.R_drewN | apply Kd.R_drew)); exact HO285.out) hb); have n2_ := Aside0.mk (Kd.R_below (by (with_reducible repeat (first | apply Kd.R_alloc | apply Kd.R_drewN | apply Kd.R_drew)); exact HO290.out) hb); have n3_ := Aside0.mk (Kd.R_below (by (with_reducible repeat (first | apply Kd.R_alloc | apply Kd.R_drewN | apply Kd.R_drew)); exact HO292.out) hb); have n4_ := Aside0.mk (below_step (by repeat (first | (with_reducible first | exact HB.out | apply below_alloc | apply pw_below_drewN | apply below_drew1) | exact HB.out)) hb); clear HO283; clear HO285; clear HO290; clear HO292; clear HB; have HO283 := n0_; have HO285 := n1_; have HO290 := n2_; have HO292 := n3_; have HB := n4_; clear n0_ n1_ n2_ n3_ n4_; (try clear hb); (try clear hb2); (try clear hk); (try clear hi)))
        go_meet
        case rel => exact ⟨_, (true), (by first | rfl | (simp; done) | (simp [*]; done)), H', ⟨by first | omega | exact Nat.le_refl _⟩, ⟨by (with_reducible repeat (first | apply Kd.R_alloc | apply Kd.R_drewN | apply Kd.R_drew)); exact Kd.R_mono HO283.out (fun _ hk => hk.2)⟩, ⟨by (with_reducible repeat (first | apply Kd.R_alloc | apply Kd.R_drewN | apply Kd.R_drew)); exact Kd.R_mono HO285.out (fun _ hk => hk.2)⟩, ⟨by (with_reducible repeat (first | apply Kd.R_alloc | apply Kd.R_drewN | apply Kd.R_drew)); exact Kd.R_mono HO290.out (fun _ hk => hk.2)⟩, ⟨by (with_reducible repeat (first | apply Kd.R_alloc | apply Kd.R_drewN | apply Kd.R_drew)); exact Kd.R_mono HO292.out (fun _ hk => hk.2)⟩, ⟨by repeat (first | (with_reducible first | exact HB.out | apply below_alloc | apply pw_below_drewN | apply below_drew1) | exact HB.out)⟩⟩
    case rest =>
      clear HC5
      try clear c1
      try clear c2
      try clear c2b0
      try clear c2b1
      try clear p2
      try clear c3
      try clear c8
      try clear c9
      try clear c10
      try clear c11
      obtain ⟨kq, x43_4, rfl, HA, HJ4, HO_3, HO_4, HO_6, HO_7, HB⟩ := hcut
      cases kq with
      | zero => exact absurd HA.out (by simp [laws_FnExactReadLog.j0])
      | succ kj4 =>
        have H := HA.out
        clear HA
        simp only [laws_FnExactReadLog.j0] at H
        by_cases c27 : x43_4 = true
        · subst c27
          have H1 : (some false) = some r := by rw [if_pos rfl] at H; exact H
          clear H
          have H := H1
          clear H1
          exact absurd (Option.some.inj H) (by rw [hT_.out]; decide)
        · replace c27 := Bool.eq_false_iff.mpr c27
          subst c27
          have H1 : ((laws_markCurve.f kj4 t286 1).bind fun bt295 => ((laws_markStepS.f kj4 t287 bt295.1).bind fun bt297 => ((laws_heldCurve.f kj4 bt295.2 1).bind fun t299 => (if t299 < 0 then (some false) else ((laws_heldStepS.f kj4 bt297.2 t299).bind fun t300 => (if t300 < 0 then (some false) else (if t300 = bt297.1 then ((impl_ReadLog.f a0).bind fun bt301 => ((laws_eqCurve.f kj4 bt301.1 t279).bind fun t308 => (if t308 = true then ((laws_eqStepS.f kj4 bt301.2.1 t280).bind fun t309 => (if t309 = true then (laws_FnExactReadLog.j1 kj4 bt295.2 bt297.2 bt297.1 (bt301.2.2 != t281)) else (laws_FnExactReadLog.j1 kj4 bt295.2 bt297.2 bt297.1 true))) else (laws_FnExactReadLog.j1 kj4 bt295.2 bt297.2 bt297.1 true)))) else (some false)))))))) = some r := by rw [if_neg (show ¬ (false = true) by decide)] at H; exact H
          clear H
          have H := H1
          clear H1
          replace H := Option.bind_eq_some_iff.mp H
          obtain ⟨⟨t295, t296⟩, A280, H⟩ := H
          replace H : ((laws_markStepS.f kj4 t287 t295).bind fun bt297 => ((laws_heldCurve.f kj4 t296 1).bind fun t299 => (if t299 < 0 then (some false) else ((laws_heldStepS.f kj4 bt297.2 t299).bind fun t300 => (if t300 < 0 then (some false) else (if t300 = bt297.1 then ((impl_ReadLog.f a0).bind fun bt301 => ((laws_eqCurve.f kj4 bt301.1 t279).bind fun t308 => (if t308 = true then ((laws_eqStepS.f kj4 bt301.2.1 t280).bind fun t309 => (if t309 = true then (laws_FnExactReadLog.j1 kj4 t296 bt297.2 bt297.1 (bt301.2.2 != t281)) else (laws_FnExactReadLog.j1 kj4 t296 bt297.2 bt297.1 true))) else (laws_FnExactReadLog.j1 kj4 t296 bt297.2 bt297.1 true)))) else (some false))))))) = some r := H
          have A28 := Aside0.mk A280
          clear A280
          replace H := Option.bind_eq_some_iff.mp H
          obtain ⟨⟨t297, t298⟩, A290, H⟩ := H
          replace H : ((laws_heldCurve.f kj4 t296 1).bind fun t299 => (if t299 < 0 then (some false) else ((laws_heldStepS.f kj4 t298 t299).bind fun t300 => (if t300 < 0 then (some false) else (if t300 = t297 then ((impl_ReadLog.f a0).bind fun bt301 => ((laws_eqCurve.f kj4 bt301.1 t279).bind fun t308 => (if t308 = true then ((laws_eqStepS.f kj4 bt301.2.1 t280).bind fun t309 => (if t309 = true then (laws_FnExactReadLog.j1 kj4 t296 t298 t297 (bt301.2.2 != t281)) else (laws_FnExactReadLog.j1 kj4 t296 t298 t297 true))) else (laws_FnExactReadLog.j1 kj4 t296 t298 t297 true)))) else (some false)))))) = some r := H
          have A29 := Aside0.mk A290
          clear A290
          replace H := Option.bind_eq_some_iff.mp H
          obtain ⟨t299, A300, H⟩ := H
          replace H : (if t299 < 0 then (some false) else ((laws_heldStepS.f kj4 t298 t299).bind fun t300 => (if t300 < 0 then (some false) else (if t300 = t297 then ((impl_ReadLog.f a0).bind fun bt301 => ((laws_eqCurve.f kj4 bt301.1 t279).bind fun t308 => (if t308 = true then ((laws_eqStepS.f kj4 bt301.2.1 t280).bind fun t309 => (if t309 = true then (laws_FnExactReadLog.j1 kj4 t296 t298 t297 (bt301.2.2 != t281)) else (laws_FnExactReadLog.j1 kj4 t296 t298 t297 true))) else (laws_FnExactReadLog.j1 kj4 t296 t298 t297 true)))) else (some false))))) = some r := H
          have A30 := Aside0.mk A300
          clear A300
          by_cases c31 : t299 < 0
          · rw [if_pos c31] at H
            have c31b0 : decide (t299 < 0) = true := decide_eq_true c31
            clear c31
            exact absurd (Option.some.inj H) (by rw [hT_.out]; decide)
          · rw [if_neg c31] at H
            have c31b0 : decide (t299 < 0) = false := decide_eq_false c31
            clear c31
            replace H := Option.bind_eq_some_iff.mp H
            obtain ⟨t300, A320, H⟩ := H
            replace H : (if t300 < 0 then (some false) else (if t300 = t297 then ((impl_ReadLog.f a0).bind fun bt301 => ((laws_eqCurve.f kj4 bt301.1 t279).bind fun t308 => (if t308 = true then ((laws_eqStepS.f kj4 bt301.2.1 t280).bind fun t309 => (if t309 = true then (laws_FnExactReadLog.j1 kj4 t296 t298 t297 (bt301.2.2 != t281)) else (laws_FnExactReadLog.j1 kj4 t296 t298 t297 true))) else (laws_FnExactReadLog.j1 kj4 t296 t298 t297 true)))) else (some false))) = some r := H
            have A32 := Aside0.mk A320
            clear A320
            by_cases c33 : t300 < 0
            · rw [if_pos c33] at H
              have c33b0 : decide (t300 < 0) = true := decide_eq_true c33
              clear c33
              exact absurd (Option.some.inj H) (by rw [hT_.out]; decide)
            · rw [if_neg c33] at H
              have c33b0 : decide (t300 < 0) = false := decide_eq_false c33
              clear c33
              by_cases c34 : t300 = t297
              · rw [if_pos c34] at H
                have c34b0 : (t300 == t297) = true := beq_iff_eq.mpr c34
                have c34b1 : (t300 != t297) = false := bne_eq_false_iff_eq.mpr c34
                clear c34
                replace H := Option.bind_eq_some_iff.mp H
                obtain ⟨⟨t301, t302, t303⟩, A350, H⟩ := H
                replace H : ((laws_eqCurve.f kj4 t301 t279).bind fun t308 => (if t308 = true then ((laws_eqStepS.f kj4 t302 t280).bind fun t309 => (if t309 = true then (laws_FnExactReadLog.j1 kj4 t296 t298 t297 (t303 != t281)) else (laws_FnExactReadLog.j1 kj4 t296 t298 t297 true))) else (laws_FnExactReadLog.j1 kj4 t296 t298 t297 true))) = some r := H
                have A35 := Aside0.mk A350
                clear A350
                have HC36 := Aside0.mk H
                clear H
                obtain ⟨Ao37, co37, eo37⟩ := Kd.R_slice HO_6.out
                subst eo37
                go_upto_region 20 with (first | ((with_reducible refine gate_callee (f := 12) rfl ?_); refine goesL_ (some 46) rfl rfl Tryz.func12 (by kernel_rfl) rfl #[.slice Ao37 t286.length co37, .int .i64 1] rfl (by (try simp only [List.map_toArray, List.map_cons, List.map_nil]); first | done | rfl | (simp only [List.length_drop, List.length_take]; rfl)) ?_; (with_reducible refine (laws_markCurve.calls kj4 (fun k_ => some k_ = (.slice Ao37 t286.length co37 : Value).ownBlock) (.slice Ao37 t286.length co37) t286 1 t295 t296 w _ ?side1 ?side2 A28.out).mono ?_); (case side1 => repeat (first | (with_reducible first | exact HB.out | apply below_alloc | apply pw_below_drewN | apply below_drew1) | exact HB.out)); (case side2 => exact Kd.R_tight rfl HO_6.out); rintro e w38 ⟨rfl, hy0, hb, hkp⟩; refine ⟨_, rfl, ?_⟩; have n0_ := Aside0.mk (Kd.R_mono (ok' := fun k_ => some k_ ≠ (.slice Ao37 t286.length co37 : Value).ownBlock) (Kd.R_keptB (HO_3.out) hkp (fun k_ hk_ hs_ => (hk_) hs_)) (fun k_ hk_ => hk_.1)); have n1_ := Aside0.mk (Kd.R_mono (ok' := fun k_ => some k_ ≠ (v291 : Value).ownBlock) (Kd.R_keptB ((Kd.R_apart' HO_4.out (Kd.R_typed HO_6.out) (by decide))) hkp (fun k_ hk_ hs_ => (hk_.2) hs_)) (fun k_ hk_ => hk_.1.1)); have n2_ := Aside0.mk (Kd.R_reok rfl hy0 (fun k_ e_ => HO_6.out.1 k_ e_)); have n3_ := Aside0.mk (Kd.R_mono (ok' := fun k_ => some k_ ≠ (v284 : Value).ownBlock) (Kd.R_keptB ((Kd.R_apart' HO_7.out (Kd.R_typed HO_6.out) (by decide))) hkp (fun k_ hk_ hs_ => (hk_.2) hs_)) (fun k_ hk_ => hk_.1.1)); have n4_ := Aside0.mk (hb); clear HO_3; clear HO_4; clear HO_6; clear HO_7; clear HB; have HO_3 := n0_; have HO_4 := n1_; have HO_6 := n2_; have HO_7 := n3_; have HB := n4_; clear n0_ n1_ n2_ n3_ n4_; (try clear hb); (try clear hkp); (try clear hy0); obtain ⟨Ao39, co39, eo39⟩ := Kd.R_slice HO_7.out; subst eo39) | ((with_reducible refine gate_callee (f := 13) rfl ?_); refine goesL_ (some 49) rfl rfl Tryz.func13 (by kernel_rfl) rfl #[.slice Ao39 t287.length co39, .int .i64 t295] rfl (by (try simp only [List.map_toArray, List.map_cons, List.map_nil]); first | done | rfl | (simp only [List.length_drop, List.length_take]; rfl)) ?_; (with_reducible refine (laws_markStepS.calls kj4 (fun k_ => some k_ = (.slice Ao39 t287.length co39 : Value).ownBlock) (.slice Ao39 t287.length co39) t287 t295 t297 t298 w _ ?side1 ?side2 A29.out).mono ?_); (case side1 => repeat (first | (with_reducible first | exact HB.out | apply below_alloc | apply pw_below_drewN | apply below_drew1) | exact HB.out)); (case side2 => exact Kd.R_tight rfl HO_7.out); rintro e w40 ⟨rfl, hy0, hb, hkp⟩; refine ⟨_, rfl, ?_⟩; have n0_ := Aside0.mk (Kd.R_mono (ok' := fun k_ => some k_ ≠ (.slice Ao37 t286.length co37 : Value).ownBlock) (Kd.R_keptB ((Kd.R_apart' HO_3.out (Kd.R_typed HO_7.out) (by decide))) hkp (fun k_ hk_ hs_ => (hk_.2) hs_)) (fun k_ hk_ => hk_.1.1)); have n1_ := Aside0.mk (Kd.R_mono (ok' := fun k_ => some k_ ≠ (.slice Ao39 t287.length co39 : Value).ownBlock) (Kd.R_keptB (HO_4.out) hkp (fun k_ hk_ hs_ => (hk_) hs_)) (fun k_ hk_ => hk_.1)); have n2_ := Aside0.mk (Kd.R_mono (ok' := fun k_ => some k_ ≠ (v282 : Value).ownBlock) (Kd.R_keptB ((Kd.R_apart' HO_6.out (Kd.R_typed HO_7.out) (by decide))) hkp (fun k_ hk_ hs_ => (hk_.2) hs_)) (fun k_ hk_ => hk_.1.1)); have n3_ := Aside0.mk (Kd.R_reok rfl hy0 (fun k_ e_ => HO_7.out.1 k_ e_)); have n4_ := Aside0.mk (hb); clear HO_3; clear HO_4; clear HO_6; clear HO_7; clear HB; have HO_3 := n0_; have HO_4 := n1_; have HO_6 := n2_; have HO_7 := n3_; have HB := n4_; clear n0_ n1_ n2_ n3_ n4_; (try clear hb); (try clear hkp); (try clear hy0)) | ((with_reducible refine gate_callee (f := 14) rfl ?_); refine goesL_ (some 52) rfl rfl Tryz.func14 (by kernel_rfl) rfl #[.slice Ao37 t296.length co37, .int .i64 1] rfl (by (try simp only [List.map_toArray, List.map_cons, List.map_nil]); first | done | (rw [show t296.length = t286.length from (Kd.R_reads' HO_6.out).1.symm] <;> rfl) | rfl | (simp only [List.length_drop, List.length_take]; rfl)) ?_; (with_reducible refine (laws_heldCurve.calls kj4 _ _ t296 1 t299 _ ?side1 ?side2 A30.out).mono ?_); (case side1 => repeat (first | exact (Kd.R_reads' HO_6.out).2.2 | (with_reducible refine Kd.C_alloc ?_ _) | (with_reducible refine Kd.C_drewN ?_ _) | (with_reducible refine Kd.C_drew ?_))); (case side2 => rw [show t296.length = t286.length from (Kd.R_reads' HO_6.out).1.symm]; exact (Kd.R_reads' HO_6.out).2.1); rintro e w' ⟨rfl, ⟨nd, rfl⟩⟩; refine ⟨_, rfl, ?_⟩) | ((with_reducible refine gate_callee (f := 15) rfl ?_); refine goesL_ (some 57) rfl rfl Tryz.func15 (by kernel_rfl) rfl #[.slice Ao39 t298.length co39, .int .i64 t299] rfl (by (try simp only [List.map_toArray, List.map_cons, List.map_nil]); first | done | (rw [show t298.length = t287.length from (Kd.R_reads' HO_7.out).1.symm] <;> rfl) | rfl | (simp only [List.length_drop, List.length_take]; rfl)) ?_; (with_reducible refine (laws_heldStepS.calls kj4 _ _ t298 t299 t300 _ ?side1 ?side2 A32.out).mono ?_); (case side1 => repeat (first | exact (Kd.R_reads' HO_7.out).2.2 | (with_reducible refine Kd.C_alloc ?_ _) | (with_reducible refine Kd.C_drewN ?_ _) | (with_reducible refine Kd.C_drew ?_))); (case side2 => rw [show t298.length = t287.length from (Kd.R_reads' HO_7.out).1.symm]; exact (Kd.R_reads' HO_7.out).2.1); rintro e w' ⟨rfl, ⟨nd, rfl⟩⟩; refine ⟨_, rfl, ?_⟩) | ((with_reducible refine gate_callee (f := 9) rfl ?_); refine goesL_ (some 65) rfl rfl Tryz.func9 (by kernel_rfl) rfl #[.string a0] rfl (by (try simp only [List.map_toArray, List.map_cons, List.map_nil]); first | done | rfl | (simp only [List.length_drop, List.length_take]; rfl)) ?_; (with_reducible refine (impl_ReadLog.calls a0 t301 t302 t303 _ A35.out (by repeat (first | exact HT10.out.below HB.out | exact HT10.out | exact HT10.out.below (by repeat (first | (with_reducible first | exact HB.out | apply below_alloc | apply pw_below_drewN | apply below_drew1) | refine below_set ?_ (Aside0.out (by assumption)) | exact HB.out)) | refine Tab10.alloc ?_ _ | refine Tab10.drewN ?_ _ | refine Tab10.drew ?_))).mono ?_); rintro e w41 ⟨v304, v306, rfl, ho0, ho1, hb⟩; refine ⟨_, rfl, ?_⟩; have n0_ := Aside0.mk (Kd.R_elder' (by (with_reducible repeat (first | apply Kd.R_alloc | apply Kd.R_drewN | apply Kd.R_drew)); exact HO_3.out) (Kd.R_base ho0) hb); have n1_ := Aside0.mk (Kd.R_elder' (by (with_reducible repeat (first | apply Kd.R_alloc | apply Kd.R_drewN | apply Kd.R_drew)); exact HO_4.out) (Kd.R_base ho1) hb); have n2_ := Aside0.mk (Kd.R_elder' (by (with_reducible repeat (first | apply Kd.R_alloc | apply Kd.R_drewN | apply Kd.R_drew)); exact HO_6.out) (Kd.R_base ho0) hb); have n3_ := Aside0.mk (Kd.R_elder' (by (with_reducible repeat (first | apply Kd.R_alloc | apply Kd.R_drewN | apply Kd.R_drew)); exact HO_7.out) (Kd.R_base ho1) hb); have n4_ := Aside0.mk (Kd.R_lower (Kd.R_new' (Kd.R_new' ho0 (Kd.R_lt (by (with_reducible repeat (first | apply Kd.R_alloc | apply Kd.R_drewN | apply Kd.R_drew)); exact HO_3.out))) (Kd.R_lt (by (with_reducible repeat (first | apply Kd.R_alloc | apply Kd.R_drewN | apply Kd.R_drew)); exact HO_6.out))) (below_size (by repeat (first | (with_reducible first | exact HB.out | apply below_alloc | apply pw_below_drewN | apply below_drew1) | exact HB.out)))); have n5_ := Aside0.mk (Kd.R_lower (Kd.R_new' (Kd.R_new' ho1 (Kd.R_lt (by (with_reducible repeat (first | apply Kd.R_alloc | apply Kd.R_drewN | apply Kd.R_drew)); exact HO_4.out))) (Kd.R_lt (by (with_reducible repeat (first | apply Kd.R_alloc | apply Kd.R_drewN | apply Kd.R_drew)); exact HO_7.out))) (below_size (by repeat (first | (with_reducible first | exact HB.out | apply below_alloc | apply pw_below_drewN | apply below_drew1) | exact HB.out)))); have n6_ := Aside0.mk (below_step (by repeat (first | (with_reducible first | exact HB.out | apply below_alloc | apply pw_below_drewN | apply below_drew1) | exact HB.out)) hb); clear HO_3; clear HO_4; clear HO_6; clear HO_7; clear HB; have HO_3 := n0_; have HO_4 := n1_; have HO_6 := n2_; have HO_7 := n3_; have HO305 := n4_; have HO307 := n5_; have HB := n6_; clear n0_ n1_ n2_ n3_ n4_ n5_ n6_; (try clear hb); (try clear hb2); (try clear hk); (try clear hi); (try clear ho0); (try clear ho1)))
                (try simp only [Act.put, List.setIfInBounds_toArray, List.set_cons_zero, List.set_cons_succ])
                go_cut [83] (fun v83 wc => ∃ (kq : Nat) (x83_35 : Bool), v83 = .bool x83_35 ∧ Aside0 (laws_FnExactReadLog.j1 kq t296 t298 t297 x83_35 = some r) ∧ Aside0 (kq ≤ kj4) ∧ Aside0 (Kd.R k116 116 wc w.heap.size (fun _ => True) (.slice Ao37 t286.length co37) t296) ∧ Aside0 (Kd.R k89 89 wc w.heap.size (fun _ => True) (.slice Ao39 t287.length co39) t298) ∧ Aside0 (Below w.heap.size w wc))
                case first =>
                  have H := HC36.out
                  clear HC36
                  replace H := Option.bind_eq_some_iff.mp H
                  obtain ⟨t308, A420, H⟩ := H
                  replace H : (if t308 = true then ((laws_eqStepS.f kj4 t302 t280).bind fun t309 => (if t309 = true then (laws_FnExactReadLog.j1 kj4 t296 t298 t297 (t303 != t281)) else (laws_FnExactReadLog.j1 kj4 t296 t298 t297 true))) else (laws_FnExactReadLog.j1 kj4 t296 t298 t297 true)) = some r := H
                  have A42 := Aside0.mk A420
                  clear A420
                  by_cases c43 : t308 = true
                  · subst c43
                    have H1 : ((laws_eqStepS.f kj4 t302 t280).bind fun t309 => (if t309 = true then (laws_FnExactReadLog.j1 kj4 t296 t298 t297 (t303 != t281)) else (laws_FnExactReadLog.j1 kj4 t296 t298 t297 true))) = some r := by rw [if_pos rfl] at H; exact H
                    clear H
                    have H := H1
                    clear H1
                    replace H := Option.bind_eq_some_iff.mp H
                    obtain ⟨t309, A440, H⟩ := H
                    replace H : (if t309 = true then (laws_FnExactReadLog.j1 kj4 t296 t298 t297 (t303 != t281)) else (laws_FnExactReadLog.j1 kj4 t296 t298 t297 true)) = some r := H
                    have A44 := Aside0.mk A440
                    clear A440
                    by_cases c45 : t309 = true
                    · subst c45
                      have H1 : (laws_FnExactReadLog.j1 kj4 t296 t298 t297 (t303 != t281)) = some r := by rw [if_pos rfl] at H; exact H
                      clear H
                      have H := H1
                      clear H1
                      have H' := Aside0.mk H
                      clear H
                      obtain ⟨Ao46, co46, eo46⟩ := Kd.R_slice HO305.out
                      subst eo46
                      obtain ⟨Ao47, co47, eo47⟩ := Kd.R_slice HO_3.out
                      subst eo47
                      go_wp2_with (first | ((with_reducible refine gate_callee (f := 10) rfl ?_); refine goesL_ (some 71) rfl rfl Tryz.func10 (by kernel_rfl) rfl #[.slice Ao46 t301.length co46, .slice Ao47 t279.length co47] rfl (by (try simp only [List.map_toArray, List.map_cons, List.map_nil]); first | done | rfl | (simp only [List.length_drop, List.length_take]; rfl)) ?_; (with_reducible refine (laws_eqCurve.calls kj4 _ _ t301 _ _ t279 true _ ?side1 ?side2 ?side3 ?side4 A42.out).mono ?_); (case side1 => repeat (first | exact (Kd.R_reads' HO305.out).2.2 | (with_reducible refine Kd.C_alloc ?_ _) | (with_reducible refine Kd.C_drewN ?_ _) | (with_reducible refine Kd.C_drew ?_))); (case side2 => exact (Kd.R_reads' HO305.out).2.1); (case side3 => repeat (first | exact (Kd.R_reads' HO_3.out).2.2 | (with_reducible refine Kd.C_alloc ?_ _) | (with_reducible refine Kd.C_drewN ?_ _) | (with_reducible refine Kd.C_drew ?_))); (case side4 => exact (Kd.R_reads' HO_3.out).2.1); rintro e w48 ⟨rfl, hb⟩; refine ⟨_, rfl, ?_⟩; have n0_ := Aside0.mk (Kd.R_below HO_3.out hb); have n1_ := Aside0.mk (Kd.R_below HO_4.out hb); have n2_ := Aside0.mk (Kd.R_below HO_6.out hb); have n3_ := Aside0.mk (Kd.R_below HO_7.out hb); have n4_ := Aside0.mk (Kd.R_below HO305.out hb); have n5_ := Aside0.mk (Kd.R_below HO307.out hb); have n6_ := Aside0.mk (below_step HB.out hb); clear HO_3; clear HO_4; clear HO_6; clear HO_7; clear HO305; clear HO307; clear HB; have HO_3 := n0_; have HO_4 := n1_; have HO_6 := n2_; have HO_7 := n3_; have HO305 := n4_; have HO307 := n5_; have HB := n6_; clear n0_ n1_ n2_ n3_ n4_ n5_ n6_; (try clear hb); (try clear hb2); (try clear hk); (try clear hi); obtain ⟨Ao49, co49, eo49⟩ := Kd.R_slice HO307.out; subst eo49; obtain ⟨Ao50, co50, eo50⟩ := Kd.R_slice HO_4.out; subst eo50) | (go_at_call 11; (with_reducible refine (laws_eqStepS.calls kj4 _ _ t302 _ _ t280 true _ ?side1 ?side2 ?side3 ?side4 A44.out).mono ?_); (case side1 => repeat (first | exact (Kd.R_reads' HO307.out).2.2 | (with_reducible refine Kd.C_alloc ?_ _) | (with_reducible refine Kd.C_drewN ?_ _) | (with_reducible refine Kd.C_drew ?_))); (case side2 => exact (Kd.R_reads' HO307.out).2.1); (case side3 => repeat (first | exact (Kd.R_reads' HO_4.out).2.2 | (with_reducible refine Kd.C_alloc ?_ _) | (with_reducible refine Kd.C_drewN ?_ _) | (with_reducible refine Kd.C_drew ?_))); (case side4 => exact (Kd.R_reads' HO_4.out).2.1); rintro e w51 ⟨rfl, hb⟩; have n0_ := Aside0.mk (Kd.R_below HO_3.out hb); have n1_ := Aside0.mk (Kd.R_below HO_4.out hb); have n2_ := Aside0.mk (Kd.R_below HO_6.out hb); have n3_ := Aside0.mk (Kd.R_below HO_7.out hb); have n4_ := Aside0.mk (Kd.R_below HO305.out hb); have n5_ := Aside0.mk (Kd.R_below HO307.out hb); have n6_ := Aside0.mk (below_step HB.out hb); clear HO_3; clear HO_4; clear HO_6; clear HO_7; clear HO305; clear HO307; clear HB; have HO_3 := n0_; have HO_4 := n1_; have HO_6 := n2_; have HO_7 := n3_; have HO305 := n4_; have HO307 := n5_; have HB := n6_; clear n0_ n1_ n2_ n3_ n4_ n5_ n6_; (try clear hb); (try clear hb2); (try clear hk); (try clear hi)))
                      go_meet
                      case rel => exact ⟨_, ((t303 != t281)), (by first | rfl | (simp; done) | (simp [*]; done)), H', ⟨by have := HJ4.out; first | omega | exact Nat.le_refl _⟩, ⟨by (with_reducible repeat (first | apply Kd.R_alloc | apply Kd.R_drewN | apply Kd.R_drew)); exact Kd.R_mono HO_6.out (fun _ hk => trivial)⟩, ⟨by (with_reducible repeat (first | apply Kd.R_alloc | apply Kd.R_drewN | apply Kd.R_drew)); exact Kd.R_mono HO_7.out (fun _ hk => trivial)⟩, ⟨by repeat (first | (with_reducible first | exact HB.out | apply below_alloc | apply pw_below_drewN | apply below_drew1) | exact HB.out)⟩⟩
                    · replace c45 := Bool.eq_false_iff.mpr c45
                      subst c45
                      have H1 : (laws_FnExactReadLog.j1 kj4 t296 t298 t297 true) = some r := by rw [if_neg (show ¬ (false = true) by decide)] at H; exact H
                      clear H
                      have H := H1
                      clear H1
                      have H' := Aside0.mk H
                      clear H
                      obtain ⟨Ao52, co52, eo52⟩ := Kd.R_slice HO305.out
                      subst eo52
                      obtain ⟨Ao53, co53, eo53⟩ := Kd.R_slice HO_3.out
                      subst eo53
                      go_wp2_with (first | ((with_reducible refine gate_callee (f := 10) rfl ?_); refine goesL_ (some 71) rfl rfl Tryz.func10 (by kernel_rfl) rfl #[.slice Ao52 t301.length co52, .slice Ao53 t279.length co53] rfl (by (try simp only [List.map_toArray, List.map_cons, List.map_nil]); first | done | rfl | (simp only [List.length_drop, List.length_take]; rfl)) ?_; (with_reducible refine (laws_eqCurve.calls kj4 _ _ t301 _ _ t279 true _ ?side1 ?side2 ?side3 ?side4 A42.out).mono ?_); (case side1 => repeat (first | exact (Kd.R_reads' HO305.out).2.2 | (with_reducible refine Kd.C_alloc ?_ _) | (with_reducible refine Kd.C_drewN ?_ _) | (with_reducible refine Kd.C_drew ?_))); (case side2 => exact (Kd.R_reads' HO305.out).2.1); (case side3 => repeat (first | exact (Kd.R_reads' HO_3.out).2.2 | (with_reducible refine Kd.C_alloc ?_ _) | (with_reducible refine Kd.C_drewN ?_ _) | (with_reducible refine Kd.C_drew ?_))); (case side4 => exact (Kd.R_reads' HO_3.out).2.1); rintro e w54 ⟨rfl, hb⟩; refine ⟨_, rfl, ?_⟩; have n0_ := Aside0.mk (Kd.R_below HO_3.out hb); have n1_ := Aside0.mk (Kd.R_below HO_4.out hb); have n2_ := Aside0.mk (Kd.R_below HO_6.out hb); have n3_ := Aside0.mk (Kd.R_below HO_7.out hb); have n4_ := Aside0.mk (Kd.R_below HO305.out hb); have n5_ := Aside0.mk (Kd.R_below HO307.out hb); have n6_ := Aside0.mk (below_step HB.out hb); clear HO_3; clear HO_4; clear HO_6; clear HO_7; clear HO305; clear HO307; clear HB; have HO_3 := n0_; have HO_4 := n1_; have HO_6 := n2_; have HO_7 := n3_; have HO305 := n4_; have HO307 := n5_; have HB := n6_; clear n0_ n1_ n2_ n3_ n4_ n5_ n6_; (try clear hb); (try clear hb2); (try clear hk); (try clear hi); obtain ⟨Ao55, co55, eo55⟩ := Kd.R_slice HO307.out; subst eo55; obtain ⟨Ao56, co56, eo56⟩ := Kd.R_slice HO_4.out; subst eo56) | (go_at_call 11; (with_reducible refine (laws_eqStepS.calls kj4 _ _ t302 _ _ t280 false _ ?side1 ?side2 ?side3 ?side4 A44.out).mono ?_); (case side1 => repeat (first | exact (Kd.R_reads' HO307.out).2.2 | (with_reducible refine Kd.C_alloc ?_ _) | (with_reducible refine Kd.C_drewN ?_ _) | (with_reducible refine Kd.C_drew ?_))); (case side2 => exact (Kd.R_reads' HO307.out).2.1); (case side3 => repeat (first | exact (Kd.R_reads' HO_4.out).2.2 | (with_reducible refine Kd.C_alloc ?_ _) | (with_reducible refine Kd.C_drewN ?_ _) | (with_reducible refine Kd.C_drew ?_))); (case side4 => exact (Kd.R_reads' HO_4.out).2.1); rintro e w57 ⟨rfl, hb⟩; have n0_ := Aside0.mk (Kd.R_below HO_3.out hb); have n1_ := Aside0.mk (Kd.R_below HO_4.out hb); have n2_ := Aside0.mk (Kd.R_below HO_6.out hb); have n3_ := Aside0.mk (Kd.R_below HO_7.out hb); have n4_ := Aside0.mk (Kd.R_below HO305.out hb); have n5_ := Aside0.mk (Kd.R_below HO307.out hb); have n6_ := Aside0.mk (below_step HB.out hb); clear HO_3; clear HO_4; clear HO_6; clear HO_7; clear HO305; clear HO307; clear HB; have HO_3 := n0_; have HO_4 := n1_; have HO_6 := n2_; have HO_7 := n3_; have HO305 := n4_; have HO307 := n5_; have HB := n6_; clear n0_ n1_ n2_ n3_ n4_ n5_ n6_; (try clear hb); (try clear hb2); (try clear hk); (try clear hi)))
                      go_meet
                      case rel => exact ⟨_, (true), (by first | rfl | (simp; done) | (simp [*]; done)), H', ⟨by have := HJ4.out; first | omega | exact Nat.le_refl _⟩, ⟨by (with_reducible repeat (first | apply Kd.R_alloc | apply Kd.R_drewN | apply Kd.R_drew)); exact Kd.R_mono HO_6.out (fun _ hk => trivial)⟩, ⟨by (with_reducible repeat (first | apply Kd.R_alloc | apply Kd.R_drewN | apply Kd.R_drew)); exact Kd.R_mono HO_7.out (fun _ hk => trivial)⟩, ⟨by repeat (first | (with_reducible first | exact HB.out | apply below_alloc | apply pw_below_drewN | apply below_drew1) | exact HB.out)⟩⟩
                  · replace c43 := Bool.eq_false_iff.mpr c43
                    subst c43
                    have H1 : (laws_FnExactReadLog.j1 kj4 t296 t298 t297 true) = some r := by rw [if_neg (show ¬ (false = true) by decide)] at H; exact H
                    clear H
                    have H := H1
                    clear H1
                    have H' := Aside0.mk H
                    clear H
                    obtain ⟨Ao58, co58, eo58⟩ := Kd.R_slice HO305.out
                    subst eo58
                    obtain ⟨Ao59, co59, eo59⟩ := Kd.R_slice HO_3.out
                    subst eo59
                    go_wp2_with (first | ((with_reducible refine gate_callee (f := 10) rfl ?_); refine goesL_ (some 71) rfl rfl Tryz.func10 (by kernel_rfl) rfl #[.slice Ao58 t301.length co58, .slice Ao59 t279.length co59] rfl (by (try simp only [List.map_toArray, List.map_cons, List.map_nil]); first | done | rfl | (simp only [List.length_drop, List.length_take]; rfl)) ?_; (with_reducible refine (laws_eqCurve.calls kj4 _ _ t301 _ _ t279 false _ ?side1 ?side2 ?side3 ?side4 A42.out).mono ?_); (case side1 => repeat (first | exact (Kd.R_reads' HO305.out).2.2 | (with_reducible refine Kd.C_alloc ?_ _) | (with_reducible refine Kd.C_drewN ?_ _) | (with_reducible refine Kd.C_drew ?_))); (case side2 => exact (Kd.R_reads' HO305.out).2.1); (case side3 => repeat (first | exact (Kd.R_reads' HO_3.out).2.2 | (with_reducible refine Kd.C_alloc ?_ _) | (with_reducible refine Kd.C_drewN ?_ _) | (with_reducible refine Kd.C_drew ?_))); (case side4 => exact (Kd.R_reads' HO_3.out).2.1); rintro e w60 ⟨rfl, hb⟩; refine ⟨_, rfl, ?_⟩; have n0_ := Aside0.mk (Kd.R_below HO_3.out hb); have n1_ := Aside0.mk (Kd.R_below HO_4.out hb); have n2_ := Aside0.mk (Kd.R_below HO_6.out hb); have n3_ := Aside0.mk (Kd.R_below HO_7.out hb); have n4_ := Aside0.mk (Kd.R_below HO305.out hb); have n5_ := Aside0.mk (Kd.R_below HO307.out hb); have n6_ := Aside0.mk (below_step HB.out hb); clear HO_3; clear HO_4; clear HO_6; clear HO_7; clear HO305; clear HO307; clear HB; have HO_3 := n0_; have HO_4 := n1_; have HO_6 := n2_; have HO_7 := n3_; have HO305 := n4_; have HO307 := n5_; have HB := n6_; clear n0_ n1_ n2_ n3_ n4_ n5_ n6_; (try clear hb); (try clear hb2); (try clear hk); (try clear hi)))
                    go_meet
                    case rel => exact ⟨_, (true), (by first | rfl | (simp; done) | (simp [*]; done)), H', ⟨by have := HJ4.out; first | omega | exact Nat.le_refl _⟩, ⟨by (with_reducible repeat (first | apply Kd.R_alloc | apply Kd.R_drewN | apply Kd.R_drew)); exact Kd.R_mono HO_6.out (fun _ hk => trivial)⟩, ⟨by (with_reducible repeat (first | apply Kd.R_alloc | apply Kd.R_drewN | apply Kd.R_drew)); exact Kd.R_mono HO_7.out (fun _ hk => trivial)⟩, ⟨by repeat (first | (with_reducible first | exact HB.out | apply below_alloc | apply pw_below_drewN | apply below_drew1) | exact HB.out)⟩⟩
                case rest =>
                  clear HC36
                  try clear c1
                  try clear c2
                  try clear c2b0
                  try clear c2b1
                  try clear p2
                  try clear c3
                  try clear c4
                  try clear c8
                  try clear c9
                  try clear c10
                  try clear c11
                  try clear c12
                  try clear c13
                  try clear c14
                  try clear c15
                  try clear c27
                  try clear c31
                  try clear c31b0
                  try clear c33
                  try clear c33b0
                  try clear c34
                  try clear c34b0
                  try clear c34b1
                  try clear c43
                  try clear c45
                  try clear p2
                  obtain ⟨kq, x83_35, rfl, HA, HJ35, HO_6, HO_7, HB⟩ := hcut
                  have hl6_35 := (Kd.R_reads' HO_6.out).1
                  rw [hl6_35] at HO_6
                  (try simp only [hl6_35])
                  (try simp only [hl6_35] at HO_7)
                  have hl7_35 := (Kd.R_reads' HO_7.out).1
                  rw [hl7_35] at HO_7
                  (try simp only [hl7_35])
                  (try simp only [hl7_35] at HO_6)
                  cases kq with
                  | zero => exact absurd HA.out (by simp [laws_FnExactReadLog.j1])
                  | succ kj35 =>
                    have H := HA.out
                    clear HA
                    simp only [laws_FnExactReadLog.j1] at H
                    by_cases c61 : x83_35 = true
                    · subst c61
                      have H1 : (some false) = some r := by rw [if_pos rfl] at H; exact H
                      clear H
                      have H := H1
                      clear H1
                      exact absurd (Option.some.inj H) (by rw [hT_.out]; decide)
                    · replace c61 := Bool.eq_false_iff.mpr c61
                      subst c61
                      have H1 : ((laws_heldCurve.f kj35 t296 1).bind fun t310 => (if t310 < 0 then (some false) else ((laws_heldStepS.f kj35 t298 t310).bind fun t311 => (if t311 < 0 then (some false) else (if t311 = t297 then (some true) else (some false)))))) = some r := by rw [if_neg (show ¬ (false = true) by decide)] at H; exact H
                      clear H
                      have H := H1
                      clear H1
                      replace H := Option.bind_eq_some_iff.mp H
                      obtain ⟨t310, A620, H⟩ := H
                      replace H : (if t310 < 0 then (some false) else ((laws_heldStepS.f kj35 t298 t310).bind fun t311 => (if t311 < 0 then (some false) else (if t311 = t297 then (some true) else (some false))))) = some r := H
                      have A62 := Aside0.mk A620
                      clear A620
                      by_cases c63 : t310 < 0
                      · rw [if_pos c63] at H
                        have c63b0 : decide (t310 < 0) = true := decide_eq_true c63
                        clear c63
                        exact absurd (Option.some.inj H) (by rw [hT_.out]; decide)
                      · rw [if_neg c63] at H
                        have c63b0 : decide (t310 < 0) = false := decide_eq_false c63
                        clear c63
                        replace H := Option.bind_eq_some_iff.mp H
                        obtain ⟨t311, A640, H⟩ := H
                        replace H : (if t311 < 0 then (some false) else (if t311 = t297 then (some true) else (some false))) = some r := H
                        have A64 := Aside0.mk A640
                        clear A640
                        by_cases c65 : t311 < 0
                        · rw [if_pos c65] at H
                          have c65b0 : decide (t311 < 0) = true := decide_eq_true c65
                          clear c65
                          exact absurd (Option.some.inj H) (by rw [hT_.out]; decide)
                        · rw [if_neg c65] at H
                          have c65b0 : decide (t311 < 0) = false := decide_eq_false c65
                          clear c65
                          by_cases c66 : t311 = t297
                          · rw [if_pos c66] at H
                            have c66b0 : (t311 == t297) = true := beq_iff_eq.mpr c66
                            have c66b1 : (t311 != t297) = false := bne_eq_false_iff_eq.mpr c66
                            clear c66
                            obtain rfl := Option.some.inj H
                            go_wp2_with (first | ((with_reducible refine gate_callee (f := 14) rfl ?_); refine goesL_ (some 86) rfl rfl Tryz.func14 (by kernel_rfl) rfl #[.slice Ao37 t296.length co37, .int .i64 1] rfl (by (try simp only [List.map_toArray, List.map_cons, List.map_nil]); first | done | rfl | (simp only [List.length_drop, List.length_take]; rfl)) ?_; (with_reducible refine (laws_heldCurve.calls kj35 _ _ t296 1 t310 _ ?side1 ?side2 A62.out).mono ?_); (case side1 => repeat (first | exact (Kd.R_reads' HO_6.out).2.2 | (with_reducible refine Kd.C_alloc ?_ _) | (with_reducible refine Kd.C_drewN ?_ _) | (with_reducible refine Kd.C_drew ?_))); (case side2 => exact (Kd.R_reads' HO_6.out).2.1); rintro e w' ⟨rfl, ⟨nd, rfl⟩⟩; refine ⟨_, rfl, ?_⟩) | ((with_reducible refine gate_callee (f := 15) rfl ?_); refine goesL_ (some 91) rfl rfl Tryz.func15 (by kernel_rfl) rfl #[.slice Ao39 t298.length co39, .int .i64 t310] rfl (by (try simp only [List.map_toArray, List.map_cons, List.map_nil]); first | done | rfl | (simp only [List.length_drop, List.length_take]; rfl)) ?_; (with_reducible refine (laws_heldStepS.calls kj35 _ _ t298 t310 t311 _ ?side1 ?side2 A64.out).mono ?_); (case side1 => repeat (first | exact (Kd.R_reads' HO_7.out).2.2 | (with_reducible refine Kd.C_alloc ?_ _) | (with_reducible refine Kd.C_drewN ?_ _) | (with_reducible refine Kd.C_drew ?_))); (case side2 => exact (Kd.R_reads' HO_7.out).2.1); rintro e w' ⟨rfl, ⟨nd, rfl⟩⟩; refine ⟨_, rfl, ?_⟩))
                            go_ret
                            exact ⟨by first | rfl | (simp [errW_none, errW_some] <;> rfl) | (simp [*, errW_none, errW_some] <;> rfl), by repeat (first | (with_reducible first | exact HB.out | apply below_alloc | apply pw_below_drewN | apply below_drew1) | exact HB.out)⟩
                          · rw [if_neg c66] at H
                            have c66b0 : (t311 == t297) = false := beq_eq_false_iff_ne.mpr c66
                            have c66b1 : (t311 != t297) = true := bne_iff_ne.mpr c66
                            exact absurd (Option.some.inj H) (by rw [hT_.out]; decide)
              · rw [if_neg c34] at H
                have c34b0 : (t300 == t297) = false := beq_eq_false_iff_ne.mpr c34
                have c34b1 : (t300 != t297) = true := bne_iff_ne.mpr c34
                exact absurd (Option.some.inj H) (by rw [hT_.out]; decide)

end Go.Proofs.YtiehbagnebjadaaGreatDoor.Q
