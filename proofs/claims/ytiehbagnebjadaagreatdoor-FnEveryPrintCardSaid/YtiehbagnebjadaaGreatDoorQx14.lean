-- Written by wip/mk.py of this repository (a run of the kit's print with hand-proved leaves added); Lean checks it.
import Derived.Test.YtiehbagnebjadaaGreatDoorQx0
import Derived.Test.YtiehbagnebjadaaGreatDoorQx6
import Derived.Test.YtiehbagnebjadaaGreatDoorQx12
import Derived.Test.YtiehbagnebjadaaGreatDoorQx13
namespace Go.Proofs.YtiehbagnebjadaaGreatDoor.Q
open Go.RowKit Go.Proofs.YtiehbagnebjadaaGreatDoorW.PrintWords Go.Proofs.YtiehbagnebjadaaGreatDoorW.PrintLast Go.Proofs.YtiehbagnebjadaaGreatDoorW.PrintMore
attribute [local go_sem] max2_int min2_int max_two min_two max_three min_three max_four min_four   -- for this text's walks alone
set_option linter.unusedVariables false
set_option linter.unusedSimpArgs false

/-! ### spec_ReadLog: function 8 -/
mutual
def spec_ReadLog.j0 : Nat → List ByteArray → Int → Bool → Option ((List (S116)) × (List (S89)) × Int)
  | 0, _, _, _ => none
  | k + 1, x5, x6, x33 => if x33 = true then (some ((([] : List (S116))), (([] : List (S89))), 5)) else (if 0 < (x5.length : Int) then ((spec_ReadCurve.f k (rdOf ByteArray.empty x5 0)).bind fun bt178 => (if bt178.2 = 0 then (spec_ReadLog.l0 k x5 x6 bt178.1 (([] : List (S89))) 1) else (some ((([] : List (S116))), (([] : List (S89))), 5)))) else (none))
def spec_ReadLog.l0 : Nat → List ByteArray → Int → List (S116) → List (S89) → Int → Option ((List (S116)) × (List (S89)) × Int)
  | 0, _, _, _, _, _ => none
  | k + 1, x5, x6, x7, x9, x10 => if x10 < x6 then (if 0 ≤ x10 then (if x10 < (x5.length : Int) then ((spec_l01Split.f k (rdOf ByteArray.empty x5 x10) 32).bind fun t192 => (if (t192.length : Int) = 2 then (if 0 < (t192.length : Int) then ((spec_l03Unhex.f k (rdOf ByteArray.empty t192 0)).bind fun bt202 => (if 1 < (t192.length : Int) then ((spec_l01Number.f k (rdOf ByteArray.empty t192 1)).bind fun bt205 => (if bt202.2 = true then (if bt205.2 = true then ((spec_l03Thirds.f bt205.1).bind fun t207 => (if t207 = true then (if x9.length < 8796093022208 then (spec_ReadLog.l0 k x5 x6 x7 (x9 ++ [(⟨bt202.1, IntKind.i8.wrap (bt205.1)⟩ : S89)]) (wrap64 (x10 + 1))) else (none)) else (some ((([] : List (S116))), (([] : List (S89))), 5)))) else (some ((([] : List (S116))), (([] : List (S89))), 5))) else (some ((([] : List (S116))), (([] : List (S89))), 5)))) else (none))) else (none)) else (some ((([] : List (S116))), (([] : List (S89))), 5)))) else (none)) else (none)) else (some (x7, x9, 0))
end
def spec_ReadLog.f (k : Nat) (a0 : ByteArray) : Option ((List (S116)) × (List (S89)) × Int) := (spec_l01Split.f k a0 10).bind fun t167 => (if (wrap64 ((t167.length : Int) - 1)) < 1 then (spec_ReadLog.j0 k t167 (wrap64 ((t167.length : Int) - 1)) true) else (if (wrap64 ((t167.length : Int) - 1)) > 31 then (spec_ReadLog.j0 k t167 (wrap64 ((t167.length : Int) - 1)) true) else (if 0 ≤ (wrap64 ((t167.length : Int) - 1)) then (if (wrap64 ((t167.length : Int) - 1)) < (t167.length : Int) then (spec_ReadLog.j0 k t167 (wrap64 ((t167.length : Int) - 1)) ((rdOf ByteArray.empty t167 (wrap64 ((t167.length : Int) - 1))).toList != ([] : List UInt8))) else (none)) else (none))))
theorem spec_ReadLog.mono_l : ∀ k, (∀ y0 y1 y2, LeO (spec_ReadLog.j0 k y0 y1 y2) (spec_ReadLog.j0 (k + 1) y0 y1 y2)) ∧ (∀ y0 y1 y2 y3 y4, LeO (spec_ReadLog.l0 k y0 y1 y2 y3 y4) (spec_ReadLog.l0 (k + 1) y0 y1 y2 y3 y4))
  | 0 => ⟨fun _ _ _ r h => by simp [spec_ReadLog.j0] at h, fun _ _ _ _ _ r h => by simp [spec_ReadLog.l0] at h⟩
  | k + 1 => by
    obtain ⟨ih0, ih1⟩ := spec_ReadLog.mono_l k
    refine ⟨?_, ?_⟩
    · intro y0 y1 y2
      unfold spec_ReadLog.j0
      repeat' first
      | (with_reducible exact ih0 _ _ _)
      | (with_reducible exact ih1 _ _ _ _ _)
      | (with_reducible exact spec_ReadCurve.mono _ _)
      | (with_reducible exact spec_l01Number.mono _ _)
      | (with_reducible exact spec_l01Split.mono _ _ _)
      | (with_reducible exact spec_l03Unhex.mono _ _)
      | (with_reducible exact LeO.refl _)
      | (with_reducible exact LeO.none _)
      | (with_reducible refine LeO.ite ?_ ?_)
      | (with_reducible refine LeO.bind ?_ (fun _ => ?_))
      | exact ih0 _ _ _
      | exact ih1 _ _ _ _ _
      | exact spec_ReadCurve.mono _ _
      | exact spec_l01Number.mono _ _
      | exact spec_l01Split.mono _ _ _
      | exact spec_l03Unhex.mono _ _
      | exact LeO.none _
      | refine LeO.ite ?_ ?_
      | refine LeO.bind ?_ (fun _ => ?_)
    · intro y0 y1 y2 y3 y4
      unfold spec_ReadLog.l0
      repeat' first
      | (with_reducible exact ih0 _ _ _)
      | (with_reducible exact ih1 _ _ _ _ _)
      | (with_reducible exact spec_ReadCurve.mono _ _)
      | (with_reducible exact spec_l01Number.mono _ _)
      | (with_reducible exact spec_l01Split.mono _ _ _)
      | (with_reducible exact spec_l03Unhex.mono _ _)
      | (with_reducible exact LeO.refl _)
      | (with_reducible exact LeO.none _)
      | (with_reducible refine LeO.ite ?_ ?_)
      | (with_reducible refine LeO.bind ?_ (fun _ => ?_))
      | exact ih0 _ _ _
      | exact ih1 _ _ _ _ _
      | exact spec_ReadCurve.mono _ _
      | exact spec_l01Number.mono _ _
      | exact spec_l01Split.mono _ _ _
      | exact spec_l03Unhex.mono _ _
      | exact LeO.none _
      | refine LeO.ite ?_ ?_
      | refine LeO.bind ?_ (fun _ => ?_)
theorem spec_ReadLog.mono : ∀ a0 k, LeO (spec_ReadLog.f k a0) (spec_ReadLog.f (k + 1) a0) := by
  intro a0 k
  obtain ⟨ih0, ih1⟩ := spec_ReadLog.mono_l k
  unfold spec_ReadLog.f
  repeat' first
      | (with_reducible exact ih0 _ _ _)
      | (with_reducible exact ih1 _ _ _ _ _)
      | (with_reducible exact spec_ReadCurve.mono _ _)
      | (with_reducible exact spec_l01Number.mono _ _)
      | (with_reducible exact spec_l01Split.mono _ _ _)
      | (with_reducible exact spec_l03Unhex.mono _ _)
      | (with_reducible exact LeO.refl _)
      | (with_reducible exact LeO.none _)
      | (with_reducible refine LeO.ite ?_ ?_)
      | (with_reducible refine LeO.bind ?_ (fun _ => ?_))
      | exact ih0 _ _ _
      | exact ih1 _ _ _ _ _
      | exact spec_ReadCurve.mono _ _
      | exact spec_l01Number.mono _ _
      | exact spec_l01Split.mono _ _ _
      | exact spec_l03Unhex.mono _ _
      | exact LeO.none _
      | refine LeO.ite ?_ ?_
      | refine LeO.bind ?_ (fun _ => ?_)
set_option maxHeartbeats 8000000 in
set_option maxRecDepth 100000 in
theorem spec_ReadLog.calls (k : Nat) (a0 : ByteArray) (r1 : List (S116)) (r2 : List (S89)) (r3 : Int) (w : World) (h : spec_ReadLog.f k a0 = some (r1, r2, r3)) :
    Calls Tryz.prog 8 #[.string a0] w fun e w' => ∃ v0_ v1_ : Value, e = .returned (.tuple #[v0_, v1_, .int .i64 r3]) ∧ Kd.R k116 116 w' w.heap.size (fun _ => True) v0_ r1 ∧ Kd.R k89 89 w' w.heap.size (fun _ => True) v1_ r2 ∧ Below w.heap.size w w' := by
  have hu89 := Tryz.underlying89
  have HB := Aside0.mk (Below.refl w.heap.size w)
  have H : ((spec_l01Split.f k a0 10).bind fun t167 => (if (wrap64 ((t167.length : Int) - 1)) < 1 then (spec_ReadLog.j0 k t167 (wrap64 ((t167.length : Int) - 1)) true) else (if (wrap64 ((t167.length : Int) - 1)) > 31 then (spec_ReadLog.j0 k t167 (wrap64 ((t167.length : Int) - 1)) true) else (if 0 ≤ (wrap64 ((t167.length : Int) - 1)) then (if (wrap64 ((t167.length : Int) - 1)) < (t167.length : Int) then (spec_ReadLog.j0 k t167 (wrap64 ((t167.length : Int) - 1)) ((rdOf ByteArray.empty t167 (wrap64 ((t167.length : Int) - 1))).toList != ([] : List UInt8))) else (none)) else (none))))) = some (r1, r2, r3) := h
  clear h
  replace H := Option.bind_eq_some_iff.mp H
  obtain ⟨t167, A20, H⟩ := H
  replace H : (if (wrap64 ((t167.length : Int) - 1)) < 1 then (spec_ReadLog.j0 k t167 (wrap64 ((t167.length : Int) - 1)) true) else (if (wrap64 ((t167.length : Int) - 1)) > 31 then (spec_ReadLog.j0 k t167 (wrap64 ((t167.length : Int) - 1)) true) else (if 0 ≤ (wrap64 ((t167.length : Int) - 1)) then (if (wrap64 ((t167.length : Int) - 1)) < (t167.length : Int) then (spec_ReadLog.j0 k t167 (wrap64 ((t167.length : Int) - 1)) ((rdOf ByteArray.empty t167 (wrap64 ((t167.length : Int) - 1))).toList != ([] : List UInt8))) else (none)) else (none)))) = some (r1, r2, r3) := H
  have A2 := Aside0.mk A20
  clear A20
  have HC3 := Aside0.mk H
  clear H
  go_enter Tryz.func8, Tryz.ntmps8
  go_upto_region 3 with (first | ((with_reducible refine gate_callee (f := 64) rfl ?_); refine goesL_ (some 17) rfl rfl Tryz.func64 (by kernel_rfl) rfl #[.string a0, .int .u8 10] rfl (by (try simp only [List.map_toArray, List.map_cons, List.map_nil]); first | done | rfl | (simp only [List.length_drop, List.length_take]; rfl)) ?_; (with_reducible refine (spec_l01Split.calls k a0 10 t167 _ A2.out).mono ?_); rintro e w4 ⟨v168, rfl, ho0, hb⟩; refine ⟨_, rfl, ?_⟩; have n0_ := Aside0.mk (Kd.R_lower ho0 (below_size HB.out)); have n1_ := Aside0.mk (below_step HB.out hb); clear HB; have HO169 := n0_; have HB := n1_; clear n0_ n1_; (try clear hb); (try clear hb2); (try clear hk); (try clear hi); (try clear ho0); obtain ⟨Ao5, co5, eo5⟩ := Kd.R_slice HO169.out; subst eo5))
  (try simp only [Act.put, List.setIfInBounds_toArray, List.set_cons_zero, List.set_cons_succ])
  go_cut [33] (fun v33 wc => ∃ (kq : Nat) (x33_2 : Bool), v33 = .bool x33_2 ∧ Aside0 (spec_ReadLog.j0 kq t167 (wrap64 ((t167.length : Int) - 1)) x33_2 = some (r1, r2, r3)) ∧ Aside0 (kq ≤ k) ∧ Aside0 (Kd.R Kd.string 9 wc w.heap.size (fun _ => True) (.slice Ao5 t167.length co5) t167) ∧ Aside0 (Below w.heap.size w wc))
  case first =>
    have H := HC3.out
    clear HC3
    by_cases c6 : (wrap64 ((t167.length : Int) - 1)) < 1
    · rw [if_pos c6] at H
      have c6b0 : decide ((wrap64 ((t167.length : Int) - 1)) < 1) = true := decide_eq_true c6
      clear c6
      (first | rw [c6b0] | (simp only [i64_w, i32_w]; rw [c6b0]) | skip)
      have H' := Aside0.mk H
      clear H
      go_wp2
      go_meet
      case rel => exact ⟨_, (true), (by first | rfl | (simp; done) | (simp [*]; done)), H', ⟨by first | omega | exact Nat.le_refl _⟩, ⟨by (with_reducible repeat (first | apply Kd.R_alloc | apply Kd.R_drewN | apply Kd.R_drew)); exact HO169.out⟩, ⟨by repeat (first | (with_reducible first | exact HB.out | apply below_alloc | apply pw_below_drewN | apply below_drew1) | exact HB.out)⟩⟩
    · rw [if_neg c6] at H
      have c6b0 : decide ((wrap64 ((t167.length : Int) - 1)) < 1) = false := decide_eq_false c6
      clear c6
      (first | rw [c6b0] | (simp only [i64_w, i32_w]; rw [c6b0]) | skip)
      by_cases c7 : (wrap64 ((t167.length : Int) - 1)) > 31
      · rw [if_pos c7] at H
        have c7b0 : decide (31 < (wrap64 ((t167.length : Int) - 1))) = true := decide_eq_true c7
        clear c7
        have H' := Aside0.mk H
        clear H
        go_wp2
        go_meet
        case rel => exact ⟨_, (true), (by first | rfl | (simp; done) | (simp [*]; done)), H', ⟨by first | omega | exact Nat.le_refl _⟩, ⟨by (with_reducible repeat (first | apply Kd.R_alloc | apply Kd.R_drewN | apply Kd.R_drew)); exact HO169.out⟩, ⟨by repeat (first | (with_reducible first | exact HB.out | apply below_alloc | apply pw_below_drewN | apply below_drew1) | exact HB.out)⟩⟩
      · rw [if_neg c7] at H
        have c7b0 : decide (31 < (wrap64 ((t167.length : Int) - 1))) = false := decide_eq_false c7
        clear c7
        obtain ⟨ji8, hji8⟩ : ∃ j_ : Int, (wrap64 ((t167.length : Int) - 1)) = j_ := ⟨_, rfl⟩
        replace H : (if 0 ≤ (ji8) then (if (ji8) < (t167.length : Int) then (spec_ReadLog.j0 k t167 ji8 ((rdOf ByteArray.empty t167 (ji8)).toList != ([] : List UInt8))) else (none)) else (none)) = some (r1, r2, r3) := by first | (rw [hji8] at H; exact H) | (simp only [hji8] at H ⊢; exact H)
        (try rw [hji8] at c6b0)
        (try rw [hji8] at c7b0)
        have hji8w : (IntKind.i64.wrap ((t167.length : Int) - 1)) = ji8 := (i64_w _).trans hji8
        by_cases c9 : 0 ≤ (ji8)
        · rw [if_pos c9] at H
          have c9b0 : decide (0 ≤ (ji8)) = true := decide_eq_true c9
          clear c9
          by_cases c10 : (ji8) < (t167.length : Int)
          · rw [if_pos c10] at H
            have c10b0 : decide ((ji8) < (t167.length : Int)) = true := decide_eq_true c10
            clear c10
            have H' := Aside0.mk H
            clear H
            have p170 : 0 ≤ ((ji8) : Int) := of_decide_eq_true (by first | (with_reducible assumption) | assumption)
            have q170 : (ji8) < (t167.length : Int) := of_decide_eq_true (by first | (with_reducible assumption) | assumption)
            obtain ⟨ad170, e170, hx170_0⟩ := Kd.at_string (Kd.R_reads' HO169.out).2.2 (ji8) p170 q170
            cases e170
            replace p170 := eq_true p170
            replace q170 := eq_true q170
            go_wp2
            go_meet
            case rel => exact ⟨_, (((rdOf ByteArray.empty t167 (ji8)).toList != ([] : List UInt8))), (by first | rfl | (simp; done) | (simp only [← hji8] <;> (first | rfl | (simp; done) | (simp; generalize (ByteArray.toList _) = xl_; cases xl_ <;> rfl))) | (simp [*]; done)), (by first | exact H' | exact ⟨by rw [hji8]; exact H'.out⟩), ⟨by first | omega | exact Nat.le_refl _⟩, ⟨by (with_reducible repeat (first | apply Kd.R_alloc | apply Kd.R_drewN | apply Kd.R_drew)); exact HO169.out⟩, ⟨by repeat (first | (with_reducible first | exact HB.out | apply below_alloc | apply pw_below_drewN | apply below_drew1) | exact HB.out)⟩⟩
          · rw [if_neg c10] at H
            exact absurd H (by simp)
        · rw [if_neg c9] at H
          exact absurd H (by simp)
  case rest =>
    clear HC3
    try clear c1
    try clear p1
    try clear q1
    try clear hx1
    try clear p2
    try clear c6
    try clear c6b0
    try clear p6
    try clear c7
    try clear c7b0
    try clear c8
    try clear c9
    try clear c9b0
    try clear c10
    try clear c10b0
    try clear hx170_0
    try clear p170
    try clear q170
    obtain ⟨kq, x33_2, rfl, HA, HJ2, HO_5, HB⟩ := hcut
    cases kq with
    | zero => exact absurd HA.out (by simp [spec_ReadLog.j0])
    | succ kj2 =>
      have H := HA.out
      clear HA
      simp only [spec_ReadLog.j0] at H
      by_cases c11 : x33_2 = true
      · subst c11
        have H1 : (some ((([] : List (S116))), (([] : List (S89))), 5)) = some (r1, r2, r3) := by rw [if_pos rfl] at H; exact H
        clear H
        have H := H1
        clear H1
        obtain ⟨y171, hy171⟩ : ∃ y_ : List (S116), y_ = (([] : List (S116))) := ⟨_, rfl⟩
        replace H : (some (y171, (([] : List (S89))), 5)) = some (r1, r2, r3) := by first | (rw [hy171]; with_reducible exact H) | (have H2_ := (Option.bind_some _ _).symm.trans H; rw [hy171]; with_reducible exact H2_) | (have H2_ := (Option.bind_some _ _).symm.trans H; with_reducible exact H2_) | with_reducible exact H | (rw [hy171]; exact H) | exact H
        have Ny171 := Aside0.mk hy171
        clear hy171
        obtain ⟨y174, hy174⟩ : ∃ y_ : List (S89), y_ = (([] : List (S89))) := ⟨_, rfl⟩
        replace H : (some (y171, y174, 5)) = some (r1, r2, r3) := by first | (rw [hy174]; with_reducible exact H) | (have H2_ := (Option.bind_some _ _).symm.trans H; rw [hy174]; with_reducible exact H2_) | (have H2_ := (Option.bind_some _ _).symm.trans H; with_reducible exact H2_) | with_reducible exact H | (rw [hy174]; exact H) | exact H
        have Ny174 := Aside0.mk hy174
        clear hy174
        simp only [Option.some.injEq, Prod.mk.injEq] at H
        obtain ⟨rfl, rfl, rfl⟩ := H
        go_wp2_with (first | ((with_reducible refine gate_dst (N := 34) rfl ?_); refine Kd.R_lit k116 _ 116 ?hg (N := 34) ?hd (xs := ([] : List (S116))) (inner := []) (ok := fun _ => True) (okp := fun _ => True) ?hr ?hp (fun _ hk => hk) trivial (Below.refl _ _) (Nat.le_refl _) (by simp) ?_; (case hd => rfl); (case hg => rfl); (case hr => first | (go_simp; done) | (go_simp; rfl)); (case hp => exact (Reps.none _ _)); intro v172 w12 ho13 hb hg_ hnew_; clear hg_ hnew_; (first | rw [← Ny171.out] at ho13 | (simp only [Int.reduceToNat] at ho13; rw [← Ny171.out] at ho13)); have n0_ := Aside0.mk (Kd.R_below HO_5.out hb); have n1_ := Aside0.mk (Kd.R_lower ho13 (below_size HB.out)); have n2_ := Aside0.mk (below_step HB.out hb); clear HO_5; clear HB; have HO_5 := n0_; have HO173 := n1_; have HB := n2_; clear n0_ n1_ n2_; clear hb ho13) | ((with_reducible refine gate_dst (N := 35) rfl ?_); refine Kd.R_lit k89 _ 89 ?hg (N := 35) ?hd (xs := ([] : List (S89))) (inner := []) (ok := fun _ => True) (okp := fun _ => True) ?hr ?hp (fun _ hk => hk) trivial (Below.refl _ _) (Nat.le_refl _) (by simp) ?_; (case hd => rfl); (case hg => rfl); (case hr => first | (go_simp; done) | (go_simp; rfl)); (case hp => exact (Reps.none _ _)); intro v175 w14 ho15 hb hg_ hnew_; clear hg_ hnew_; (first | rw [← Ny174.out] at ho15 | (simp only [Int.reduceToNat] at ho15; rw [← Ny174.out] at ho15)); have n0_ := Aside0.mk (Kd.R_below HO_5.out hb); have n1_ := Aside0.mk (Kd.R_below HO173.out hb); have n2_ := Aside0.mk (Kd.R_lower ho15 (below_size HB.out)); have n3_ := Aside0.mk (below_step HB.out hb); clear HO_5; clear HO173; clear HB; have HO_5 := n0_; have HO173 := n1_; have HO176 := n2_; have HB := n3_; clear n0_ n1_ n2_ n3_; clear hb ho15))
        go_ret3
        exact ⟨_, _, by first | rfl | (simp [errW_none, errW_some] <;> rfl) | (simp [*, errW_none, errW_some] <;> rfl), by (with_reducible repeat (first | apply Kd.R_alloc | apply Kd.R_drewN | apply Kd.R_drew)); exact HO173.out, by (with_reducible repeat (first | apply Kd.R_alloc | apply Kd.R_drewN | apply Kd.R_drew)); exact HO176.out, by repeat (first | (with_reducible first | exact HB.out | apply below_alloc | apply pw_below_drewN | apply below_drew1) | exact HB.out)⟩
      · replace c11 := Bool.eq_false_iff.mpr c11
        subst c11
        have H1 : (if 0 < (t167.length : Int) then ((spec_ReadCurve.f kj2 (rdOf ByteArray.empty t167 0)).bind fun bt178 => (if bt178.2 = 0 then (spec_ReadLog.l0 kj2 t167 (wrap64 ((t167.length : Int) - 1)) bt178.1 (([] : List (S89))) 1) else (some ((([] : List (S116))), (([] : List (S89))), 5)))) else (none)) = some (r1, r2, r3) := by rw [if_neg (show ¬ (false = true) by decide)] at H; exact H
        clear H
        have H := H1
        clear H1
        by_cases c16 : 0 < (t167.length : Int)
        · rw [if_pos c16] at H
          have c16b0 : decide (0 < (t167.length : Int)) = true := decide_eq_true c16
          have c16b1 : decide (0 < t167.length) = true := decide_eq_true (by omega)
          clear c16
          replace H := Option.bind_eq_some_iff.mp H
          obtain ⟨⟨t178, t179⟩, A170, H⟩ := H
          replace H : (if t179 = 0 then (spec_ReadLog.l0 kj2 t167 (wrap64 ((t167.length : Int) - 1)) t178 (([] : List (S89))) 1) else (some ((([] : List (S116))), (([] : List (S89))), 5))) = some (r1, r2, r3) := H
          have A17 := Aside0.mk A170
          clear A170
          by_cases c18 : t179 = 0
          · rw [if_pos c18] at H
            have c18b0 : (t179 == 0) = true := beq_iff_eq.mpr c18
            have c18b1 : (t179 != 0) = false := bne_eq_false_iff_eq.mpr c18
            clear c18
            obtain ⟨y188, hy188⟩ : ∃ y_ : List (S89), y_ = (([] : List (S89))) := ⟨_, rfl⟩
            replace H : (spec_ReadLog.l0 kj2 t167 (wrap64 ((t167.length : Int) - 1)) t178 y188 1) = some (r1, r2, r3) := by first | (rw [hy188]; with_reducible exact H) | (have H2_ := (Option.bind_some _ _).symm.trans H; rw [hy188]; with_reducible exact H2_) | (have H2_ := (Option.bind_some _ _).symm.trans H; with_reducible exact H2_) | with_reducible exact H | (rw [hy188]; exact H) | exact H
            have Ny188 := Aside0.mk hy188
            clear hy188
            have H' := Aside0.mk H
            clear H
            have p177 : 0 ≤ (0 : Int) := (by omega)
            have q177 : 0 < (t167.length : Int) := of_decide_eq_true (by first | (with_reducible assumption) | assumption)
            obtain ⟨ad177, e177, hx177_0⟩ := Kd.at_string (Kd.R_reads' HO_5.out).2.2 0 p177 q177
            cases e177
            have qi177 : (0 < t167.length) = True := eq_true (by omega)
            (try rw [show ((0 : Int)).toNat = 0 from rfl] at hx177_0)
            (try rw [Addr.add_zero'] at hx177_0)
            replace p177 := eq_true p177
            replace q177 := eq_true q177
            go_wp2_with (first | ((with_reducible refine gate_callee (f := 65) rfl ?_); refine goesL_ (some 40) rfl rfl Tryz.func65 (by kernel_rfl) rfl #[.string (rdOf ByteArray.empty t167 0)] rfl (by (try simp only [List.map_toArray, List.map_cons, List.map_nil]); first | done | rfl | (simp only [List.length_drop, List.length_take]; rfl)) ?_; (with_reducible refine (spec_ReadCurve.calls kj2 (rdOf ByteArray.empty t167 0) t178 t179 _ A17.out).mono ?_); rintro e w19 ⟨v180, rfl, ho0, hb⟩; refine ⟨_, rfl, ?_⟩; have n0_ := Aside0.mk (Kd.R_below HO_5.out hb); have n1_ := Aside0.mk (Kd.R_lower ho0 (below_size HB.out)); have n2_ := Aside0.mk (below_step HB.out hb); clear HO_5; clear HB; have HO_5 := n0_; have HO181 := n1_; have HB := n2_; clear n0_ n1_ n2_; (try clear hb); (try clear hb2); (try clear hk); (try clear hi); (try clear ho0)) | ((with_reducible refine gate_dst (N := 47) rfl ?_); refine Kd.R_lit k89 _ 89 ?hg (N := 47) ?hd (xs := ([] : List (S89))) (inner := []) (ok := fun _ => True) (okp := fun _ => True) ?hr ?hp (fun _ hk => hk) trivial (Below.refl _ _) (Nat.le_refl _) (by simp) ?_; (case hd => rfl); (case hg => rfl); (case hr => first | (go_simp; done) | (go_simp; rfl)); (case hp => exact (Reps.none _ _)); intro v189 w20 ho21 hb hg_ hnew_; clear hg_ hnew_; (first | rw [← Ny188.out] at ho21 | (simp only [Int.reduceToNat] at ho21; rw [← Ny188.out] at ho21)); have n0_ := Aside0.mk (Kd.R_below HO_5.out hb); have n1_ := Aside0.mk (Kd.R_below HO181.out hb); have n2_ := Aside0.mk (Kd.R_lower ho21 (below_size HB.out)); have n3_ := Aside0.mk (below_step HB.out hb); clear HO_5; clear HO181; clear HB; have HO_5 := n0_; have HO181 := n1_; have HO190 := n2_; have HB := n3_; clear n0_ n1_ n2_ n3_; clear hb ho21))
            go_loopg [9, 10] kj2 (fun kq v9 v10 w' => ∃ (x9_2 : List (S89)) (x10_2 : Int), v10 = .int .i64 x10_2 ∧ Aside0 (spec_ReadLog.l0 kq t167 (wrap64 ((t167.length : Int) - 1)) t178 x9_2 x10_2 = some (r1, r2, r3)) ∧ Aside0 (kq ≤ kj2) ∧ Aside0 (Kd.R Kd.string 9 w' w.heap.size (fun _ => True) (.slice (some ad177) t167.length co5) t167) ∧ Aside0 (Kd.R k116 116 w' w.heap.size (fun _ => True) v180 t178) ∧ Aside0 (Kd.R k89 89 w' w.heap.size (fun _ => True) v9 x9_2) ∧ Aside0 (Below w.heap.size w w'))
            case atStart => exact ⟨(y188), (1), (by first | rfl | (simp; done) | (simp [*]; done)), H', ⟨Nat.le_refl _⟩, ⟨by (with_reducible repeat (first | apply Kd.R_alloc | apply Kd.R_drewN | apply Kd.R_drew)); exact HO_5.out⟩, ⟨by (with_reducible repeat (first | apply Kd.R_alloc | apply Kd.R_drewN | apply Kd.R_drew)); exact HO181.out⟩, ⟨by (with_reducible repeat (first | apply Kd.R_alloc | apply Kd.R_drewN | apply Kd.R_drew)); exact HO190.out⟩, ⟨by repeat (first | (with_reducible first | exact HB.out | apply below_alloc | apply pw_below_drewN | apply below_drew1) | exact HB.out)⟩⟩
            case round =>
              clear H'
              try clear c1
              try clear p1
              try clear q1
              try clear hx1
              try clear qi1
              try clear p2
              try clear c6
              try clear c6b0
              try clear p6
              try clear c7
              try clear c7b0
              try clear c8
              try clear c9
              try clear c9b0
              try clear c10
              try clear c10b0
              try clear c11
              try clear c16
              try clear c16b0
              try clear c16b1
              try clear p17
              try clear q17
              try clear hx17
              try clear qi17
              try clear c18
              try clear c18b0
              try clear c18b1
              try clear hx170_0
              try clear hx177_0
              try clear p1
              try clear p170
              try clear p177
              try clear p2
              try clear p6
              try clear q1
              try clear q170
              try clear q177
              obtain ⟨x9_2, x10_2, rfl, HA, HK2, HO_5, HO_7, HO_9, HB⟩ := hrel
              cases gk with
              | zero => exact absurd HA.out (by simp [spec_ReadLog.l0])
              | succ k2 =>
                have H := HA.out
                clear HA
                simp only [spec_ReadLog.l0] at H
                by_cases c22 : x10_2 < (wrap64 ((t167.length : Int) - 1))
                · rw [if_pos c22] at H
                  have c22b0 : decide (x10_2 < (wrap64 ((t167.length : Int) - 1))) = true := decide_eq_true c22
                  clear c22
                  by_cases c23 : 0 ≤ x10_2
                  · rw [if_pos c23] at H
                    have c23b0 : decide (0 ≤ x10_2) = true := decide_eq_true c23
                    clear c23
                    by_cases c24 : x10_2 < (t167.length : Int)
                    · rw [if_pos c24] at H
                      have c24b0 : decide (x10_2 < (t167.length : Int)) = true := decide_eq_true c24
                      clear c24
                      replace H := Option.bind_eq_some_iff.mp H
                      obtain ⟨t192, A250, H⟩ := H
                      replace H : (if (t192.length : Int) = 2 then (if 0 < (t192.length : Int) then ((spec_l03Unhex.f k2 (rdOf ByteArray.empty t192 0)).bind fun bt202 => (if 1 < (t192.length : Int) then ((spec_l01Number.f k2 (rdOf ByteArray.empty t192 1)).bind fun bt205 => (if bt202.2 = true then (if bt205.2 = true then ((spec_l03Thirds.f bt205.1).bind fun t207 => (if t207 = true then (if x9_2.length < 8796093022208 then (spec_ReadLog.l0 k2 t167 (wrap64 ((t167.length : Int) - 1)) t178 (x9_2 ++ [(⟨bt202.1, IntKind.i8.wrap (bt205.1)⟩ : S89)]) (wrap64 (x10_2 + 1))) else (none)) else (some ((([] : List (S116))), (([] : List (S89))), 5)))) else (some ((([] : List (S116))), (([] : List (S89))), 5))) else (some ((([] : List (S116))), (([] : List (S89))), 5)))) else (none))) else (none)) else (some ((([] : List (S116))), (([] : List (S89))), 5))) = some (r1, r2, r3) := H
                      have A25 := Aside0.mk A250
                      clear A250
                      by_cases c26 : (t192.length : Int) = 2
                      · rw [if_pos c26] at H
                        have c26b0 : ((t192.length : Int) == 2) = true := beq_iff_eq.mpr c26
                        have c26b1 : ((t192.length : Int) != 2) = false := bne_eq_false_iff_eq.mpr c26
                        clear c26
                        by_cases c27 : 0 < (t192.length : Int)
                        · rw [if_pos c27] at H
                          have c27b0 : decide (0 < (t192.length : Int)) = true := decide_eq_true c27
                          have c27b1 : decide (0 < t192.length) = true := decide_eq_true (by omega)
                          clear c27
                          replace H := Option.bind_eq_some_iff.mp H
                          obtain ⟨⟨t202, t203⟩, A280, H⟩ := H
                          replace H : (if 1 < (t192.length : Int) then ((spec_l01Number.f k2 (rdOf ByteArray.empty t192 1)).bind fun bt205 => (if t203 = true then (if bt205.2 = true then ((spec_l03Thirds.f bt205.1).bind fun t207 => (if t207 = true then (if x9_2.length < 8796093022208 then (spec_ReadLog.l0 k2 t167 (wrap64 ((t167.length : Int) - 1)) t178 (x9_2 ++ [(⟨t202, IntKind.i8.wrap (bt205.1)⟩ : S89)]) (wrap64 (x10_2 + 1))) else (none)) else (some ((([] : List (S116))), (([] : List (S89))), 5)))) else (some ((([] : List (S116))), (([] : List (S89))), 5))) else (some ((([] : List (S116))), (([] : List (S89))), 5)))) else (none)) = some (r1, r2, r3) := H
                          have A28 := Aside0.mk A280
                          clear A280
                          by_cases c29 : 1 < (t192.length : Int)
                          · rw [if_pos c29] at H
                            have c29b0 : decide (1 < (t192.length : Int)) = true := decide_eq_true c29
                            have c29b1 : decide (1 < t192.length) = true := decide_eq_true (by omega)
                            clear c29
                            replace H := Option.bind_eq_some_iff.mp H
                            obtain ⟨⟨t205, t206⟩, A300, H⟩ := H
                            replace H : (if t203 = true then (if t206 = true then ((spec_l03Thirds.f t205).bind fun t207 => (if t207 = true then (if x9_2.length < 8796093022208 then (spec_ReadLog.l0 k2 t167 (wrap64 ((t167.length : Int) - 1)) t178 (x9_2 ++ [(⟨t202, IntKind.i8.wrap (t205)⟩ : S89)]) (wrap64 (x10_2 + 1))) else (none)) else (some ((([] : List (S116))), (([] : List (S89))), 5)))) else (some ((([] : List (S116))), (([] : List (S89))), 5))) else (some ((([] : List (S116))), (([] : List (S89))), 5))) = some (r1, r2, r3) := H
                            have A30 := Aside0.mk A300
                            clear A300
                            by_cases c31 : t203 = true
                            · subst c31
                              have H1 : (if t206 = true then ((spec_l03Thirds.f t205).bind fun t207 => (if t207 = true then (if x9_2.length < 8796093022208 then (spec_ReadLog.l0 k2 t167 (wrap64 ((t167.length : Int) - 1)) t178 (x9_2 ++ [(⟨t202, IntKind.i8.wrap (t205)⟩ : S89)]) (wrap64 (x10_2 + 1))) else (none)) else (some ((([] : List (S116))), (([] : List (S89))), 5)))) else (some ((([] : List (S116))), (([] : List (S89))), 5))) = some (r1, r2, r3) := by rw [if_pos rfl] at H; exact H
                              clear H
                              have H := H1
                              clear H1
                              by_cases c32 : t206 = true
                              · subst c32
                                have H1 : ((spec_l03Thirds.f t205).bind fun t207 => (if t207 = true then (if x9_2.length < 8796093022208 then (spec_ReadLog.l0 k2 t167 (wrap64 ((t167.length : Int) - 1)) t178 (x9_2 ++ [(⟨t202, IntKind.i8.wrap (t205)⟩ : S89)]) (wrap64 (x10_2 + 1))) else (none)) else (some ((([] : List (S116))), (([] : List (S89))), 5)))) = some (r1, r2, r3) := by rw [if_pos rfl] at H; exact H
                                clear H
                                have H := H1
                                clear H1
                                replace H := Option.bind_eq_some_iff.mp H
                                obtain ⟨t207, A330, H⟩ := H
                                replace H : (if t207 = true then (if x9_2.length < 8796093022208 then (spec_ReadLog.l0 k2 t167 (wrap64 ((t167.length : Int) - 1)) t178 (x9_2 ++ [(⟨t202, IntKind.i8.wrap (t205)⟩ : S89)]) (wrap64 (x10_2 + 1))) else (none)) else (some ((([] : List (S116))), (([] : List (S89))), 5))) = some (r1, r2, r3) := H
                                have A33 := Aside0.mk A330
                                clear A330
                                by_cases c34 : t207 = true
                                · subst c34
                                  have H1 : (if x9_2.length < 8796093022208 then (spec_ReadLog.l0 k2 t167 (wrap64 ((t167.length : Int) - 1)) t178 (x9_2 ++ [(⟨t202, IntKind.i8.wrap (t205)⟩ : S89)]) (wrap64 (x10_2 + 1))) else (none)) = some (r1, r2, r3) := by rw [if_pos rfl] at H; exact H
                                  clear H
                                  have H := H1
                                  clear H1
                                  by_cases c35 : x9_2.length < 8796093022208
                                  · rw [if_pos c35] at H
                                    have LMc35 := Aside0.mk c35
                                    clear c35
                                    obtain ⟨y208, hy208⟩ : ∃ y_ : List (S89), y_ = (x9_2 ++ [(⟨t202, IntKind.i8.wrap (t205)⟩ : S89)]) := ⟨_, rfl⟩
                                    replace H : (spec_ReadLog.l0 k2 t167 (wrap64 ((t167.length : Int) - 1)) t178 y208 (wrap64 (x10_2 + 1))) = some (r1, r2, r3) := by first | (rw [hy208]; with_reducible exact H) | (have H2_ := (Option.bind_some _ _).symm.trans H; rw [hy208]; with_reducible exact H2_) | (have H2_ := (Option.bind_some _ _).symm.trans H; with_reducible exact H2_) | with_reducible exact H | (rw [hy208]; exact H) | exact H
                                    have Ny208 := Aside0.mk hy208
                                    clear hy208
                                    have H' := Aside0.mk H
                                    clear H
                                    have p191 : 0 ≤ (x10_2 : Int) := of_decide_eq_true (by first | (with_reducible assumption) | assumption)
                                    have q191 : x10_2 < (t167.length : Int) := of_decide_eq_true (by first | (with_reducible assumption) | assumption)
                                    obtain ⟨ad191, e191, hx191_0⟩ := Kd.at_string (Kd.R_reads' HO_5.out).2.2 x10_2 p191 q191
                                    obtain rfl : ad177 = ad191 := (by injection e191)
                                    replace p191 := eq_true p191
                                    replace q191 := eq_true q191
                                    go_wp2_with (first | ((with_reducible refine gate_callee (f := 64) rfl ?_); refine goesL_ (some 57) rfl rfl Tryz.func64 (by kernel_rfl) rfl #[.string (rdOf ByteArray.empty t167 x10_2), .int .u8 32] rfl (by (try simp only [List.map_toArray, List.map_cons, List.map_nil]); first | done | rfl | (simp only [List.length_drop, List.length_take]; rfl)) ?_; (with_reducible refine (spec_l01Split.calls k2 (rdOf ByteArray.empty t167 x10_2) 32 t192 _ A25.out).mono ?_); rintro e w36 ⟨v193, rfl, ho0, hb⟩; refine ⟨_, rfl, ?_⟩; have n0_ := Aside0.mk (Kd.R_elder' HO_5.out (Kd.R_base ho0) hb); have n1_ := Aside0.mk (Kd.R_below HO_7.out hb); have n2_ := Aside0.mk (Kd.R_below HO_9.out hb); have n3_ := Aside0.mk (Kd.R_lower (Kd.R_new' ho0 (Kd.R_lt HO_5.out)) (below_size HB.out)); have n4_ := Aside0.mk (below_step HB.out hb); clear HO_5; clear HO_7; clear HO_9; clear HB; have HO_5 := n0_; have HO_7 := n1_; have HO_9 := n2_; have HO194 := n3_; have HB := n4_; clear n0_ n1_ n2_ n3_ n4_; (try clear hb); (try clear hb2); (try clear hk); (try clear hi); (try clear ho0); obtain ⟨Ao37, co37, eo37⟩ := Kd.R_slice HO194.out; subst eo37; have p201 : 0 ≤ (0 : Int) := (by omega); have q201 : 0 < (t192.length : Int) := of_decide_eq_true (by first | (with_reducible assumption) | assumption); obtain ⟨ad201, e201, hx201_0⟩ := Kd.at_string (Kd.R_reads' HO194.out).2.2 0 p201 q201; cases e201; have qi201 : (0 < t192.length) = True := eq_true (by omega); (try rw [show ((0 : Int)).toNat = 0 from rfl] at hx201_0); (try rw [Addr.add_zero'] at hx201_0); replace p201 := eq_true p201; replace q201 := eq_true q201) | ((with_reducible refine gate_callee (f := 66) rfl ?_); refine goesL_ (some 67) rfl rfl Tryz.func66 (by kernel_rfl) rfl #[.string (rdOf ByteArray.empty t192 0)] rfl (by (try simp only [List.map_toArray, List.map_cons, List.map_nil]); first | done | rfl | (simp only [List.length_drop, List.length_take]; rfl)) ?_; (with_reducible refine (spec_l03Unhex.calls k2 (rdOf ByteArray.empty t192 0) t202 true _ A28.out).mono ?_); rintro e w' ⟨rfl, ⟨nd, rfl⟩⟩; refine ⟨_, rfl, ?_⟩; have p204 : 0 ≤ (1 : Int) := (by omega); have q204 : 1 < (t192.length : Int) := of_decide_eq_true (by first | (with_reducible assumption) | assumption); obtain ⟨ad204, e204, hx204_0⟩ := Kd.at_string (Kd.R_reads' HO194.out).2.2 1 p204 q204; obtain rfl : ad201 = ad204 := (by injection e204); (try simp only [show (1 : Int).toNat = 1 from rfl, Nat.reduceMul, Nat.reduceEqDiff, Go.Addr.add, ↓reduceIte] at hx204_0); have qi204 : (1 < t192.length) = True := eq_true (by omega); (try rw [show ((1 : Int)).toNat = 1 from rfl] at hx204_0); replace p204 := eq_true p204; replace q204 := eq_true q204) | ((with_reducible refine gate_callee (f := 67) rfl ?_); refine goesL_ (some 74) rfl rfl Tryz.func67 (by kernel_rfl) rfl #[.string (rdOf ByteArray.empty t192 1)] rfl (by (try simp only [List.map_toArray, List.map_cons, List.map_nil]); first | done | rfl | (simp only [List.length_drop, List.length_take]; rfl)) ?_; (with_reducible refine (spec_l01Number.calls k2 (rdOf ByteArray.empty t192 1) t205 true _ A30.out).mono ?_); rintro e w' ⟨rfl, ⟨nd, rfl⟩⟩; refine ⟨_, rfl, ?_⟩) | (go_at_call 68; (with_reducible refine (spec_l03Thirds.calls t205 true _ A33.out).mono ?_); rintro e w' ⟨rfl, ⟨nd, rfl⟩⟩) | ((with_reducible refine gate_builtin (b := .append) (xs := #[.tmp 90, .tmp 95]) rfl ?_); at_builtin; refine Kd.R_append k89 (w0 := w) w.heap.size rfl (.tmp 90) (.tmp 95) 24 89 (.agg #[(.int .u64 0), (.int .i8 0)]) 16 rfl Tryz.underlying24 info89 rfl (by decide) (by omega) u9 x9_2 (⟨t202, IntKind.i8.wrap (t205)⟩ : S89) [.int .u64 t202, .int .i8 (IntKind.i8.wrap (t205))] (fun _ => True) (fun _ => False) rfl rfl ?aP (fun _ hk => hk.elim) ?aF ?aO ?aB ?aS ?aL ?_; (case aP => exact k89_mkM _ _ _ (⟨t202, IntKind.i8.wrap (t205)⟩ : S89)); (case aB => exact (by first | exact HB.out | exact pw_below_drewN HB.out _)); (case aF => exact (fun _ _ => trivial)); (case aO => exact (by first | exact HO_9.out | exact Kd.R_drewN HO_9.out _)); (case aS => exact (below_size (by first | exact HB.out | exact pw_below_drewN HB.out _))); (case aL => have := LMc35.out; omega); intro v209 w38 ho hb hg hat; rw [← Ny208.out] at ho; have n0_ := Aside0.mk (Kd.R_over' (by first | exact HO_5.out | exact Kd.R_drewN HO_5.out _) (Kd.R_typed (by first | exact HO_9.out | exact Kd.R_drewN HO_9.out _)) (by decide) hg); have n1_ := Aside0.mk (Kd.R_over' (by first | exact HO_7.out | exact Kd.R_drewN HO_7.out _) (Kd.R_typed (by first | exact HO_9.out | exact Kd.R_drewN HO_9.out _)) (by decide) hg); have n2_ := Aside0.mk (Kd.R_over' (by first | exact HO194.out | exact Kd.R_drewN HO194.out _) (Kd.R_typed (by first | exact HO_9.out | exact Kd.R_drewN HO_9.out _)) (by decide) hg); have n3_ := Aside0.mk (hb); have n4_ := Aside0.mk (ho); clear HO_5; clear HO_7; clear HO194; clear HB; clear HO_9; have HO_5 := n0_; have HO_7 := n1_; have HO194 := n2_; have HB := n3_; have HO210 := n4_; clear n0_ n1_ n2_ n3_ n4_; clear ho hb hg hat))
                                    go_roundg k2
                                    case measure => have := HJ2.out; have := HK2.out; omega
                                    case rel => exact ⟨(y208), (wrap64 (x10_2 + 1)), (by first | rfl | (simp; done) | (simp [*]; done)), H', ⟨by have := HJ2.out; have := HK2.out; omega⟩, ⟨by (with_reducible repeat (first | apply Kd.R_alloc | apply Kd.R_drewN | apply Kd.R_drew)); exact Kd.R_mono HO_5.out (fun _ hk => trivial)⟩, ⟨by (with_reducible repeat (first | apply Kd.R_alloc | apply Kd.R_drewN | apply Kd.R_drew)); exact HO_7.out⟩, ⟨by (with_reducible repeat (first | apply Kd.R_alloc | apply Kd.R_drewN | apply Kd.R_drew)); exact HO210.out⟩, ⟨by repeat (first | (with_reducible first | exact HB.out | apply below_alloc | apply pw_below_drewN | apply below_drew1) | exact HB.out)⟩⟩
                                  · rw [if_neg c35] at H
                                    exact absurd H (by simp)
                                · replace c34 := Bool.eq_false_iff.mpr c34
                                  subst c34
                                  have H1 : (some ((([] : List (S116))), (([] : List (S89))), 5)) = some (r1, r2, r3) := by rw [if_neg (show ¬ (false = true) by decide)] at H; exact H
                                  clear H
                                  have H := H1
                                  clear H1
                                  obtain ⟨y211, hy211⟩ : ∃ y_ : List (S116), y_ = (([] : List (S116))) := ⟨_, rfl⟩
                                  replace H : (some (y211, (([] : List (S89))), 5)) = some (r1, r2, r3) := by first | (rw [hy211]; with_reducible exact H) | (have H2_ := (Option.bind_some _ _).symm.trans H; rw [hy211]; with_reducible exact H2_) | (have H2_ := (Option.bind_some _ _).symm.trans H; with_reducible exact H2_) | with_reducible exact H | (rw [hy211]; exact H) | exact H
                                  have Ny211 := Aside0.mk hy211
                                  clear hy211
                                  obtain ⟨y214, hy214⟩ : ∃ y_ : List (S89), y_ = (([] : List (S89))) := ⟨_, rfl⟩
                                  replace H : (some (y211, y214, 5)) = some (r1, r2, r3) := by first | (rw [hy214]; with_reducible exact H) | (have H2_ := (Option.bind_some _ _).symm.trans H; rw [hy214]; with_reducible exact H2_) | (have H2_ := (Option.bind_some _ _).symm.trans H; with_reducible exact H2_) | with_reducible exact H | (rw [hy214]; exact H) | exact H
                                  have Ny214 := Aside0.mk hy214
                                  clear hy214
                                  simp only [Option.some.injEq, Prod.mk.injEq] at H
                                  obtain ⟨rfl, rfl, rfl⟩ := H
                                  have p191 : 0 ≤ (x10_2 : Int) := of_decide_eq_true (by first | (with_reducible assumption) | assumption)
                                  have q191 : x10_2 < (t167.length : Int) := of_decide_eq_true (by first | (with_reducible assumption) | assumption)
                                  obtain ⟨ad191, e191, hx191_0⟩ := Kd.at_string (Kd.R_reads' HO_5.out).2.2 x10_2 p191 q191
                                  obtain rfl : ad177 = ad191 := (by injection e191)
                                  replace p191 := eq_true p191
                                  replace q191 := eq_true q191
                                  go_wp2_with (first | ((with_reducible refine gate_callee (f := 64) rfl ?_); refine goesL_ (some 57) rfl rfl Tryz.func64 (by kernel_rfl) rfl #[.string (rdOf ByteArray.empty t167 x10_2), .int .u8 32] rfl (by (try simp only [List.map_toArray, List.map_cons, List.map_nil]); first | done | rfl | (simp only [List.length_drop, List.length_take]; rfl)) ?_; (with_reducible refine (spec_l01Split.calls k2 (rdOf ByteArray.empty t167 x10_2) 32 t192 _ A25.out).mono ?_); rintro e w39 ⟨v193, rfl, ho0, hb⟩; refine ⟨_, rfl, ?_⟩; have n0_ := Aside0.mk (Kd.R_elder' HO_5.out (Kd.R_base ho0) hb); have n1_ := Aside0.mk (Kd.R_below HO_7.out hb); have n2_ := Aside0.mk (Kd.R_below HO_9.out hb); have n3_ := Aside0.mk (Kd.R_lower (Kd.R_new' ho0 (Kd.R_lt HO_5.out)) (below_size HB.out)); have n4_ := Aside0.mk (below_step HB.out hb); clear HO_5; clear HO_7; clear HO_9; clear HB; have HO_5 := n0_; have HO_7 := n1_; have HO_9 := n2_; have HO194 := n3_; have HB := n4_; clear n0_ n1_ n2_ n3_ n4_; (try clear hb); (try clear hb2); (try clear hk); (try clear hi); (try clear ho0); obtain ⟨Ao40, co40, eo40⟩ := Kd.R_slice HO194.out; subst eo40; have p201 : 0 ≤ (0 : Int) := (by omega); have q201 : 0 < (t192.length : Int) := of_decide_eq_true (by first | (with_reducible assumption) | assumption); obtain ⟨ad201, e201, hx201_0⟩ := Kd.at_string (Kd.R_reads' HO194.out).2.2 0 p201 q201; cases e201; have qi201 : (0 < t192.length) = True := eq_true (by omega); (try rw [show ((0 : Int)).toNat = 0 from rfl] at hx201_0); (try rw [Addr.add_zero'] at hx201_0); replace p201 := eq_true p201; replace q201 := eq_true q201) | ((with_reducible refine gate_callee (f := 66) rfl ?_); refine goesL_ (some 67) rfl rfl Tryz.func66 (by kernel_rfl) rfl #[.string (rdOf ByteArray.empty t192 0)] rfl (by (try simp only [List.map_toArray, List.map_cons, List.map_nil]); first | done | rfl | (simp only [List.length_drop, List.length_take]; rfl)) ?_; (with_reducible refine (spec_l03Unhex.calls k2 (rdOf ByteArray.empty t192 0) t202 true _ A28.out).mono ?_); rintro e w' ⟨rfl, ⟨nd, rfl⟩⟩; refine ⟨_, rfl, ?_⟩; have p204 : 0 ≤ (1 : Int) := (by omega); have q204 : 1 < (t192.length : Int) := of_decide_eq_true (by first | (with_reducible assumption) | assumption); obtain ⟨ad204, e204, hx204_0⟩ := Kd.at_string (Kd.R_reads' HO194.out).2.2 1 p204 q204; obtain rfl : ad201 = ad204 := (by injection e204); (try simp only [show (1 : Int).toNat = 1 from rfl, Nat.reduceMul, Nat.reduceEqDiff, Go.Addr.add, ↓reduceIte] at hx204_0); have qi204 : (1 < t192.length) = True := eq_true (by omega); (try rw [show ((1 : Int)).toNat = 1 from rfl] at hx204_0); replace p204 := eq_true p204; replace q204 := eq_true q204) | ((with_reducible refine gate_callee (f := 67) rfl ?_); refine goesL_ (some 74) rfl rfl Tryz.func67 (by kernel_rfl) rfl #[.string (rdOf ByteArray.empty t192 1)] rfl (by (try simp only [List.map_toArray, List.map_cons, List.map_nil]); first | done | rfl | (simp only [List.length_drop, List.length_take]; rfl)) ?_; (with_reducible refine (spec_l01Number.calls k2 (rdOf ByteArray.empty t192 1) t205 true _ A30.out).mono ?_); rintro e w' ⟨rfl, ⟨nd, rfl⟩⟩; refine ⟨_, rfl, ?_⟩) | (go_at_call 68; (with_reducible refine (spec_l03Thirds.calls t205 false _ A33.out).mono ?_); rintro e w' ⟨rfl, ⟨nd, rfl⟩⟩) | ((with_reducible refine gate_dst (N := 88) rfl ?_); refine Kd.R_lit k116 _ 116 ?hg (N := 88) ?hd (xs := ([] : List (S116))) (inner := []) (ok := fun _ => True) (okp := fun _ => True) ?hr ?hp (fun _ hk => hk) trivial (Below.refl _ _) (Nat.le_refl _) (by simp) ?_; (case hd => rfl); (case hg => rfl); (case hr => first | (go_simp; done) | (go_simp; rfl)); (case hp => exact (Reps.none _ _)); intro v212 w41 ho42 hb hg_ hnew_; clear hg_ hnew_; (first | rw [← Ny211.out] at ho42 | (simp only [Int.reduceToNat] at ho42; rw [← Ny211.out] at ho42)); have n0_ := Aside0.mk (Kd.R_below (by first | exact HO_5.out | exact Kd.R_drewN HO_5.out _) hb); have n1_ := Aside0.mk (Kd.R_elder' (by first | exact HO_7.out | exact Kd.R_drewN HO_7.out _) (Kd.R_base ho42) hb); have n2_ := Aside0.mk (Kd.R_below (by first | exact HO_9.out | exact Kd.R_drewN HO_9.out _) hb); have n3_ := Aside0.mk (Kd.R_below (by first | exact HO194.out | exact Kd.R_drewN HO194.out _) hb); have n4_ := Aside0.mk (Kd.R_lower (Kd.R_new' ho42 (Kd.R_lt (by first | exact HO_7.out | exact Kd.R_drewN HO_7.out _))) (below_size (by first | exact HB.out | exact pw_below_drewN HB.out _))); have n5_ := Aside0.mk (below_step (by first | exact HB.out | exact pw_below_drewN HB.out _) hb); clear HO_5; clear HO_7; clear HO_9; clear HO194; clear HB; have HO_5 := n0_; have HO_7 := n1_; have HO_9 := n2_; have HO194 := n3_; have HO213 := n4_; have HB := n5_; clear n0_ n1_ n2_ n3_ n4_ n5_; clear hb ho42) | ((with_reducible refine gate_dst (N := 89) rfl ?_); refine Kd.R_lit k89 _ 89 ?hg (N := 89) ?hd (xs := ([] : List (S89))) (inner := []) (ok := fun _ => True) (okp := fun _ => True) ?hr ?hp (fun _ hk => hk) trivial (Below.refl _ _) (Nat.le_refl _) (by simp) ?_; (case hd => rfl); (case hg => rfl); (case hr => first | (go_simp; done) | (go_simp; rfl)); (case hp => exact (Reps.none _ _)); intro v215 w43 ho44 hb hg_ hnew_; clear hg_ hnew_; (first | rw [← Ny214.out] at ho44 | (simp only [Int.reduceToNat] at ho44; rw [← Ny214.out] at ho44)); have n0_ := Aside0.mk (Kd.R_below (by first | exact HO_5.out | exact Kd.R_drewN HO_5.out _) hb); have n1_ := Aside0.mk (Kd.R_below (by first | exact HO_7.out | exact Kd.R_drewN HO_7.out _) hb); have n2_ := Aside0.mk (Kd.R_elder' (by first | exact HO_9.out | exact Kd.R_drewN HO_9.out _) (Kd.R_base ho44) hb); have n3_ := Aside0.mk (Kd.R_below (by first | exact HO194.out | exact Kd.R_drewN HO194.out _) hb); have n4_ := Aside0.mk (Kd.R_below (by first | exact HO213.out | exact Kd.R_drewN HO213.out _) hb); have n5_ := Aside0.mk (Kd.R_lower (Kd.R_new' ho44 (Kd.R_lt (by first | exact HO_9.out | exact Kd.R_drewN HO_9.out _))) (below_size (by first | exact HB.out | exact pw_below_drewN HB.out _))); have n6_ := Aside0.mk (below_step (by first | exact HB.out | exact pw_below_drewN HB.out _) hb); clear HO_5; clear HO_7; clear HO_9; clear HO194; clear HO213; clear HB; have HO_5 := n0_; have HO_7 := n1_; have HO_9 := n2_; have HO194 := n3_; have HO213 := n4_; have HO216 := n5_; have HB := n6_; clear n0_ n1_ n2_ n3_ n4_ n5_ n6_; clear hb ho44))
                                  go_ret3
                                  exact ⟨_, _, by first | rfl | (simp [errW_none, errW_some] <;> rfl) | (simp [*, errW_none, errW_some] <;> rfl), by (with_reducible repeat (first | apply Kd.R_alloc | apply Kd.R_drewN | apply Kd.R_drew)); exact Kd.R_mono HO213.out (fun _ hk => trivial), by (with_reducible repeat (first | apply Kd.R_alloc | apply Kd.R_drewN | apply Kd.R_drew)); exact Kd.R_mono HO216.out (fun _ hk => trivial), by repeat (first | (with_reducible first | exact HB.out | apply below_alloc | apply pw_below_drewN | apply below_drew1) | exact HB.out)⟩
                              · replace c32 := Bool.eq_false_iff.mpr c32
                                subst c32
                                have H1 : (some ((([] : List (S116))), (([] : List (S89))), 5)) = some (r1, r2, r3) := by rw [if_neg (show ¬ (false = true) by decide)] at H; exact H
                                clear H
                                have H := H1
                                clear H1
                                obtain ⟨y217, hy217⟩ : ∃ y_ : List (S116), y_ = (([] : List (S116))) := ⟨_, rfl⟩
                                replace H : (some (y217, (([] : List (S89))), 5)) = some (r1, r2, r3) := by first | (rw [hy217]; with_reducible exact H) | (have H2_ := (Option.bind_some _ _).symm.trans H; rw [hy217]; with_reducible exact H2_) | (have H2_ := (Option.bind_some _ _).symm.trans H; with_reducible exact H2_) | with_reducible exact H | (rw [hy217]; exact H) | exact H
                                have Ny217 := Aside0.mk hy217
                                clear hy217
                                obtain ⟨y220, hy220⟩ : ∃ y_ : List (S89), y_ = (([] : List (S89))) := ⟨_, rfl⟩
                                replace H : (some (y217, y220, 5)) = some (r1, r2, r3) := by first | (rw [hy220]; with_reducible exact H) | (have H2_ := (Option.bind_some _ _).symm.trans H; rw [hy220]; with_reducible exact H2_) | (have H2_ := (Option.bind_some _ _).symm.trans H; with_reducible exact H2_) | with_reducible exact H | (rw [hy220]; exact H) | exact H
                                have Ny220 := Aside0.mk hy220
                                clear hy220
                                simp only [Option.some.injEq, Prod.mk.injEq] at H
                                obtain ⟨rfl, rfl, rfl⟩ := H
                                have p191 : 0 ≤ (x10_2 : Int) := of_decide_eq_true (by first | (with_reducible assumption) | assumption)
                                have q191 : x10_2 < (t167.length : Int) := of_decide_eq_true (by first | (with_reducible assumption) | assumption)
                                obtain ⟨ad191, e191, hx191_0⟩ := Kd.at_string (Kd.R_reads' HO_5.out).2.2 x10_2 p191 q191
                                obtain rfl : ad177 = ad191 := (by injection e191)
                                replace p191 := eq_true p191
                                replace q191 := eq_true q191
                                go_wp2_with (first | ((with_reducible refine gate_callee (f := 64) rfl ?_); refine goesL_ (some 57) rfl rfl Tryz.func64 (by kernel_rfl) rfl #[.string (rdOf ByteArray.empty t167 x10_2), .int .u8 32] rfl (by (try simp only [List.map_toArray, List.map_cons, List.map_nil]); first | done | rfl | (simp only [List.length_drop, List.length_take]; rfl)) ?_; (with_reducible refine (spec_l01Split.calls k2 (rdOf ByteArray.empty t167 x10_2) 32 t192 _ A25.out).mono ?_); rintro e w45 ⟨v193, rfl, ho0, hb⟩; refine ⟨_, rfl, ?_⟩; have n0_ := Aside0.mk (Kd.R_elder' HO_5.out (Kd.R_base ho0) hb); have n1_ := Aside0.mk (Kd.R_below HO_7.out hb); have n2_ := Aside0.mk (Kd.R_below HO_9.out hb); have n3_ := Aside0.mk (Kd.R_lower (Kd.R_new' ho0 (Kd.R_lt HO_5.out)) (below_size HB.out)); have n4_ := Aside0.mk (below_step HB.out hb); clear HO_5; clear HO_7; clear HO_9; clear HB; have HO_5 := n0_; have HO_7 := n1_; have HO_9 := n2_; have HO194 := n3_; have HB := n4_; clear n0_ n1_ n2_ n3_ n4_; (try clear hb); (try clear hb2); (try clear hk); (try clear hi); (try clear ho0); obtain ⟨Ao46, co46, eo46⟩ := Kd.R_slice HO194.out; subst eo46; have p201 : 0 ≤ (0 : Int) := (by omega); have q201 : 0 < (t192.length : Int) := of_decide_eq_true (by first | (with_reducible assumption) | assumption); obtain ⟨ad201, e201, hx201_0⟩ := Kd.at_string (Kd.R_reads' HO194.out).2.2 0 p201 q201; cases e201; have qi201 : (0 < t192.length) = True := eq_true (by omega); (try rw [show ((0 : Int)).toNat = 0 from rfl] at hx201_0); (try rw [Addr.add_zero'] at hx201_0); replace p201 := eq_true p201; replace q201 := eq_true q201) | ((with_reducible refine gate_callee (f := 66) rfl ?_); refine goesL_ (some 67) rfl rfl Tryz.func66 (by kernel_rfl) rfl #[.string (rdOf ByteArray.empty t192 0)] rfl (by (try simp only [List.map_toArray, List.map_cons, List.map_nil]); first | done | rfl | (simp only [List.length_drop, List.length_take]; rfl)) ?_; (with_reducible refine (spec_l03Unhex.calls k2 (rdOf ByteArray.empty t192 0) t202 true _ A28.out).mono ?_); rintro e w' ⟨rfl, ⟨nd, rfl⟩⟩; refine ⟨_, rfl, ?_⟩; have p204 : 0 ≤ (1 : Int) := (by omega); have q204 : 1 < (t192.length : Int) := of_decide_eq_true (by first | (with_reducible assumption) | assumption); obtain ⟨ad204, e204, hx204_0⟩ := Kd.at_string (Kd.R_reads' HO194.out).2.2 1 p204 q204; obtain rfl : ad201 = ad204 := (by injection e204); (try simp only [show (1 : Int).toNat = 1 from rfl, Nat.reduceMul, Nat.reduceEqDiff, Go.Addr.add, ↓reduceIte] at hx204_0); have qi204 : (1 < t192.length) = True := eq_true (by omega); (try rw [show ((1 : Int)).toNat = 1 from rfl] at hx204_0); replace p204 := eq_true p204; replace q204 := eq_true q204) | ((with_reducible refine gate_callee (f := 67) rfl ?_); refine goesL_ (some 74) rfl rfl Tryz.func67 (by kernel_rfl) rfl #[.string (rdOf ByteArray.empty t192 1)] rfl (by (try simp only [List.map_toArray, List.map_cons, List.map_nil]); first | done | rfl | (simp only [List.length_drop, List.length_take]; rfl)) ?_; (with_reducible refine (spec_l01Number.calls k2 (rdOf ByteArray.empty t192 1) t205 false _ A30.out).mono ?_); rintro e w' ⟨rfl, ⟨nd, rfl⟩⟩; refine ⟨_, rfl, ?_⟩) | ((with_reducible refine gate_dst (N := 88) rfl ?_); refine Kd.R_lit k116 _ 116 ?hg (N := 88) ?hd (xs := ([] : List (S116))) (inner := []) (ok := fun _ => True) (okp := fun _ => True) ?hr ?hp (fun _ hk => hk) trivial (Below.refl _ _) (Nat.le_refl _) (by simp) ?_; (case hd => rfl); (case hg => rfl); (case hr => first | (go_simp; done) | (go_simp; rfl)); (case hp => exact (Reps.none _ _)); intro v218 w47 ho48 hb hg_ hnew_; clear hg_ hnew_; (first | rw [← Ny217.out] at ho48 | (simp only [Int.reduceToNat] at ho48; rw [← Ny217.out] at ho48)); have n0_ := Aside0.mk (Kd.R_below (by first | exact HO_5.out | exact Kd.R_drewN HO_5.out _) hb); have n1_ := Aside0.mk (Kd.R_elder' (by first | exact HO_7.out | exact Kd.R_drewN HO_7.out _) (Kd.R_base ho48) hb); have n2_ := Aside0.mk (Kd.R_below (by first | exact HO_9.out | exact Kd.R_drewN HO_9.out _) hb); have n3_ := Aside0.mk (Kd.R_below (by first | exact HO194.out | exact Kd.R_drewN HO194.out _) hb); have n4_ := Aside0.mk (Kd.R_lower (Kd.R_new' ho48 (Kd.R_lt (by first | exact HO_7.out | exact Kd.R_drewN HO_7.out _))) (below_size (by first | exact HB.out | exact pw_below_drewN HB.out _))); have n5_ := Aside0.mk (below_step (by first | exact HB.out | exact pw_below_drewN HB.out _) hb); clear HO_5; clear HO_7; clear HO_9; clear HO194; clear HB; have HO_5 := n0_; have HO_7 := n1_; have HO_9 := n2_; have HO194 := n3_; have HO219 := n4_; have HB := n5_; clear n0_ n1_ n2_ n3_ n4_ n5_; clear hb ho48) | ((with_reducible refine gate_dst (N := 89) rfl ?_); refine Kd.R_lit k89 _ 89 ?hg (N := 89) ?hd (xs := ([] : List (S89))) (inner := []) (ok := fun _ => True) (okp := fun _ => True) ?hr ?hp (fun _ hk => hk) trivial (Below.refl _ _) (Nat.le_refl _) (by simp) ?_; (case hd => rfl); (case hg => rfl); (case hr => first | (go_simp; done) | (go_simp; rfl)); (case hp => exact (Reps.none _ _)); intro v221 w49 ho50 hb hg_ hnew_; clear hg_ hnew_; (first | rw [← Ny220.out] at ho50 | (simp only [Int.reduceToNat] at ho50; rw [← Ny220.out] at ho50)); have n0_ := Aside0.mk (Kd.R_below (by first | exact HO_5.out | exact Kd.R_drewN HO_5.out _) hb); have n1_ := Aside0.mk (Kd.R_below (by first | exact HO_7.out | exact Kd.R_drewN HO_7.out _) hb); have n2_ := Aside0.mk (Kd.R_elder' (by first | exact HO_9.out | exact Kd.R_drewN HO_9.out _) (Kd.R_base ho50) hb); have n3_ := Aside0.mk (Kd.R_below (by first | exact HO194.out | exact Kd.R_drewN HO194.out _) hb); have n4_ := Aside0.mk (Kd.R_below (by first | exact HO219.out | exact Kd.R_drewN HO219.out _) hb); have n5_ := Aside0.mk (Kd.R_lower (Kd.R_new' ho50 (Kd.R_lt (by first | exact HO_9.out | exact Kd.R_drewN HO_9.out _))) (below_size (by first | exact HB.out | exact pw_below_drewN HB.out _))); have n6_ := Aside0.mk (below_step (by first | exact HB.out | exact pw_below_drewN HB.out _) hb); clear HO_5; clear HO_7; clear HO_9; clear HO194; clear HO219; clear HB; have HO_5 := n0_; have HO_7 := n1_; have HO_9 := n2_; have HO194 := n3_; have HO219 := n4_; have HO222 := n5_; have HB := n6_; clear n0_ n1_ n2_ n3_ n4_ n5_ n6_; clear hb ho50))
                                go_ret3
                                exact ⟨_, _, by first | rfl | (simp [errW_none, errW_some] <;> rfl) | (simp [*, errW_none, errW_some] <;> rfl), by (with_reducible repeat (first | apply Kd.R_alloc | apply Kd.R_drewN | apply Kd.R_drew)); exact Kd.R_mono HO219.out (fun _ hk => trivial), by (with_reducible repeat (first | apply Kd.R_alloc | apply Kd.R_drewN | apply Kd.R_drew)); exact Kd.R_mono HO222.out (fun _ hk => trivial), by repeat (first | (with_reducible first | exact HB.out | apply below_alloc | apply pw_below_drewN | apply below_drew1) | exact HB.out)⟩
                            · replace c31 := Bool.eq_false_iff.mpr c31
                              subst c31
                              have H1 : (some ((([] : List (S116))), (([] : List (S89))), 5)) = some (r1, r2, r3) := by rw [if_neg (show ¬ (false = true) by decide)] at H; exact H
                              clear H
                              have H := H1
                              clear H1
                              obtain ⟨y223, hy223⟩ : ∃ y_ : List (S116), y_ = (([] : List (S116))) := ⟨_, rfl⟩
                              replace H : (some (y223, (([] : List (S89))), 5)) = some (r1, r2, r3) := by first | (rw [hy223]; with_reducible exact H) | (have H2_ := (Option.bind_some _ _).symm.trans H; rw [hy223]; with_reducible exact H2_) | (have H2_ := (Option.bind_some _ _).symm.trans H; with_reducible exact H2_) | with_reducible exact H | (rw [hy223]; exact H) | exact H
                              have Ny223 := Aside0.mk hy223
                              clear hy223
                              obtain ⟨y226, hy226⟩ : ∃ y_ : List (S89), y_ = (([] : List (S89))) := ⟨_, rfl⟩
                              replace H : (some (y223, y226, 5)) = some (r1, r2, r3) := by first | (rw [hy226]; with_reducible exact H) | (have H2_ := (Option.bind_some _ _).symm.trans H; rw [hy226]; with_reducible exact H2_) | (have H2_ := (Option.bind_some _ _).symm.trans H; with_reducible exact H2_) | with_reducible exact H | (rw [hy226]; exact H) | exact H
                              have Ny226 := Aside0.mk hy226
                              clear hy226
                              simp only [Option.some.injEq, Prod.mk.injEq] at H
                              obtain ⟨rfl, rfl, rfl⟩ := H
                              have p191 : 0 ≤ (x10_2 : Int) := of_decide_eq_true (by first | (with_reducible assumption) | assumption)
                              have q191 : x10_2 < (t167.length : Int) := of_decide_eq_true (by first | (with_reducible assumption) | assumption)
                              obtain ⟨ad191, e191, hx191_0⟩ := Kd.at_string (Kd.R_reads' HO_5.out).2.2 x10_2 p191 q191
                              obtain rfl : ad177 = ad191 := (by injection e191)
                              replace p191 := eq_true p191
                              replace q191 := eq_true q191
                              go_wp2_with (first | ((with_reducible refine gate_callee (f := 64) rfl ?_); refine goesL_ (some 57) rfl rfl Tryz.func64 (by kernel_rfl) rfl #[.string (rdOf ByteArray.empty t167 x10_2), .int .u8 32] rfl (by (try simp only [List.map_toArray, List.map_cons, List.map_nil]); first | done | rfl | (simp only [List.length_drop, List.length_take]; rfl)) ?_; (with_reducible refine (spec_l01Split.calls k2 (rdOf ByteArray.empty t167 x10_2) 32 t192 _ A25.out).mono ?_); rintro e w51 ⟨v193, rfl, ho0, hb⟩; refine ⟨_, rfl, ?_⟩; have n0_ := Aside0.mk (Kd.R_elder' HO_5.out (Kd.R_base ho0) hb); have n1_ := Aside0.mk (Kd.R_below HO_7.out hb); have n2_ := Aside0.mk (Kd.R_below HO_9.out hb); have n3_ := Aside0.mk (Kd.R_lower (Kd.R_new' ho0 (Kd.R_lt HO_5.out)) (below_size HB.out)); have n4_ := Aside0.mk (below_step HB.out hb); clear HO_5; clear HO_7; clear HO_9; clear HB; have HO_5 := n0_; have HO_7 := n1_; have HO_9 := n2_; have HO194 := n3_; have HB := n4_; clear n0_ n1_ n2_ n3_ n4_; (try clear hb); (try clear hb2); (try clear hk); (try clear hi); (try clear ho0); obtain ⟨Ao52, co52, eo52⟩ := Kd.R_slice HO194.out; subst eo52; have p201 : 0 ≤ (0 : Int) := (by omega); have q201 : 0 < (t192.length : Int) := of_decide_eq_true (by first | (with_reducible assumption) | assumption); obtain ⟨ad201, e201, hx201_0⟩ := Kd.at_string (Kd.R_reads' HO194.out).2.2 0 p201 q201; cases e201; have qi201 : (0 < t192.length) = True := eq_true (by omega); (try rw [show ((0 : Int)).toNat = 0 from rfl] at hx201_0); (try rw [Addr.add_zero'] at hx201_0); replace p201 := eq_true p201; replace q201 := eq_true q201) | ((with_reducible refine gate_callee (f := 66) rfl ?_); refine goesL_ (some 67) rfl rfl Tryz.func66 (by kernel_rfl) rfl #[.string (rdOf ByteArray.empty t192 0)] rfl (by (try simp only [List.map_toArray, List.map_cons, List.map_nil]); first | done | rfl | (simp only [List.length_drop, List.length_take]; rfl)) ?_; (with_reducible refine (spec_l03Unhex.calls k2 (rdOf ByteArray.empty t192 0) t202 false _ A28.out).mono ?_); rintro e w' ⟨rfl, ⟨nd, rfl⟩⟩; refine ⟨_, rfl, ?_⟩; have p204 : 0 ≤ (1 : Int) := (by omega); have q204 : 1 < (t192.length : Int) := of_decide_eq_true (by first | (with_reducible assumption) | assumption); obtain ⟨ad204, e204, hx204_0⟩ := Kd.at_string (Kd.R_reads' HO194.out).2.2 1 p204 q204; obtain rfl : ad201 = ad204 := (by injection e204); (try simp only [show (1 : Int).toNat = 1 from rfl, Nat.reduceMul, Nat.reduceEqDiff, Go.Addr.add, ↓reduceIte] at hx204_0); have qi204 : (1 < t192.length) = True := eq_true (by omega); (try rw [show ((1 : Int)).toNat = 1 from rfl] at hx204_0); replace p204 := eq_true p204; replace q204 := eq_true q204) | ((with_reducible refine gate_callee (f := 67) rfl ?_); refine goesL_ (some 74) rfl rfl Tryz.func67 (by kernel_rfl) rfl #[.string (rdOf ByteArray.empty t192 1)] rfl (by (try simp only [List.map_toArray, List.map_cons, List.map_nil]); first | done | rfl | (simp only [List.length_drop, List.length_take]; rfl)) ?_; (with_reducible refine (spec_l01Number.calls k2 (rdOf ByteArray.empty t192 1) t205 t206 _ A30.out).mono ?_); rintro e w' ⟨rfl, ⟨nd, rfl⟩⟩; refine ⟨_, rfl, ?_⟩) | ((with_reducible refine gate_dst (N := 88) rfl ?_); refine Kd.R_lit k116 _ 116 ?hg (N := 88) ?hd (xs := ([] : List (S116))) (inner := []) (ok := fun _ => True) (okp := fun _ => True) ?hr ?hp (fun _ hk => hk) trivial (Below.refl _ _) (Nat.le_refl _) (by simp) ?_; (case hd => rfl); (case hg => rfl); (case hr => first | (go_simp; done) | (go_simp; rfl)); (case hp => exact (Reps.none _ _)); intro v224 w53 ho54 hb hg_ hnew_; clear hg_ hnew_; (first | rw [← Ny223.out] at ho54 | (simp only [Int.reduceToNat] at ho54; rw [← Ny223.out] at ho54)); have n0_ := Aside0.mk (Kd.R_below (by first | exact HO_5.out | exact Kd.R_drewN HO_5.out _) hb); have n1_ := Aside0.mk (Kd.R_elder' (by first | exact HO_7.out | exact Kd.R_drewN HO_7.out _) (Kd.R_base ho54) hb); have n2_ := Aside0.mk (Kd.R_below (by first | exact HO_9.out | exact Kd.R_drewN HO_9.out _) hb); have n3_ := Aside0.mk (Kd.R_below (by first | exact HO194.out | exact Kd.R_drewN HO194.out _) hb); have n4_ := Aside0.mk (Kd.R_lower (Kd.R_new' ho54 (Kd.R_lt (by first | exact HO_7.out | exact Kd.R_drewN HO_7.out _))) (below_size (by first | exact HB.out | exact pw_below_drewN HB.out _))); have n5_ := Aside0.mk (below_step (by first | exact HB.out | exact pw_below_drewN HB.out _) hb); clear HO_5; clear HO_7; clear HO_9; clear HO194; clear HB; have HO_5 := n0_; have HO_7 := n1_; have HO_9 := n2_; have HO194 := n3_; have HO225 := n4_; have HB := n5_; clear n0_ n1_ n2_ n3_ n4_ n5_; clear hb ho54) | ((with_reducible refine gate_dst (N := 89) rfl ?_); refine Kd.R_lit k89 _ 89 ?hg (N := 89) ?hd (xs := ([] : List (S89))) (inner := []) (ok := fun _ => True) (okp := fun _ => True) ?hr ?hp (fun _ hk => hk) trivial (Below.refl _ _) (Nat.le_refl _) (by simp) ?_; (case hd => rfl); (case hg => rfl); (case hr => first | (go_simp; done) | (go_simp; rfl)); (case hp => exact (Reps.none _ _)); intro v227 w55 ho56 hb hg_ hnew_; clear hg_ hnew_; (first | rw [← Ny226.out] at ho56 | (simp only [Int.reduceToNat] at ho56; rw [← Ny226.out] at ho56)); have n0_ := Aside0.mk (Kd.R_below (by first | exact HO_5.out | exact Kd.R_drewN HO_5.out _) hb); have n1_ := Aside0.mk (Kd.R_below (by first | exact HO_7.out | exact Kd.R_drewN HO_7.out _) hb); have n2_ := Aside0.mk (Kd.R_elder' (by first | exact HO_9.out | exact Kd.R_drewN HO_9.out _) (Kd.R_base ho56) hb); have n3_ := Aside0.mk (Kd.R_below (by first | exact HO194.out | exact Kd.R_drewN HO194.out _) hb); have n4_ := Aside0.mk (Kd.R_below (by first | exact HO225.out | exact Kd.R_drewN HO225.out _) hb); have n5_ := Aside0.mk (Kd.R_lower (Kd.R_new' ho56 (Kd.R_lt (by first | exact HO_9.out | exact Kd.R_drewN HO_9.out _))) (below_size (by first | exact HB.out | exact pw_below_drewN HB.out _))); have n6_ := Aside0.mk (below_step (by first | exact HB.out | exact pw_below_drewN HB.out _) hb); clear HO_5; clear HO_7; clear HO_9; clear HO194; clear HO225; clear HB; have HO_5 := n0_; have HO_7 := n1_; have HO_9 := n2_; have HO194 := n3_; have HO225 := n4_; have HO228 := n5_; have HB := n6_; clear n0_ n1_ n2_ n3_ n4_ n5_ n6_; clear hb ho56))
                              go_ret3
                              exact ⟨_, _, by first | rfl | (simp [errW_none, errW_some] <;> rfl) | (simp [*, errW_none, errW_some] <;> rfl), by (with_reducible repeat (first | apply Kd.R_alloc | apply Kd.R_drewN | apply Kd.R_drew)); exact Kd.R_mono HO225.out (fun _ hk => trivial), by (with_reducible repeat (first | apply Kd.R_alloc | apply Kd.R_drewN | apply Kd.R_drew)); exact Kd.R_mono HO228.out (fun _ hk => trivial), by repeat (first | (with_reducible first | exact HB.out | apply below_alloc | apply pw_below_drewN | apply below_drew1) | exact HB.out)⟩
                          · rw [if_neg c29] at H
                            exact absurd H (by simp)
                        · rw [if_neg c27] at H
                          exact absurd H (by simp)
                      · rw [if_neg c26] at H
                        have c26b0 : ((t192.length : Int) == 2) = false := beq_eq_false_iff_ne.mpr c26
                        have c26b1 : ((t192.length : Int) != 2) = true := bne_iff_ne.mpr c26
                        obtain ⟨y195, hy195⟩ : ∃ y_ : List (S116), y_ = (([] : List (S116))) := ⟨_, rfl⟩
                        replace H : (some (y195, (([] : List (S89))), 5)) = some (r1, r2, r3) := by first | (rw [hy195]; with_reducible exact H) | (have H2_ := (Option.bind_some _ _).symm.trans H; rw [hy195]; with_reducible exact H2_) | (have H2_ := (Option.bind_some _ _).symm.trans H; with_reducible exact H2_) | with_reducible exact H | (rw [hy195]; exact H) | exact H
                        have Ny195 := Aside0.mk hy195
                        clear hy195
                        obtain ⟨y198, hy198⟩ : ∃ y_ : List (S89), y_ = (([] : List (S89))) := ⟨_, rfl⟩
                        replace H : (some (y195, y198, 5)) = some (r1, r2, r3) := by first | (rw [hy198]; with_reducible exact H) | (have H2_ := (Option.bind_some _ _).symm.trans H; rw [hy198]; with_reducible exact H2_) | (have H2_ := (Option.bind_some _ _).symm.trans H; with_reducible exact H2_) | with_reducible exact H | (rw [hy198]; exact H) | exact H
                        have Ny198 := Aside0.mk hy198
                        clear hy198
                        simp only [Option.some.injEq, Prod.mk.injEq] at H
                        obtain ⟨rfl, rfl, rfl⟩ := H
                        have p191 : 0 ≤ (x10_2 : Int) := of_decide_eq_true (by first | (with_reducible assumption) | assumption)
                        have q191 : x10_2 < (t167.length : Int) := of_decide_eq_true (by first | (with_reducible assumption) | assumption)
                        obtain ⟨ad191, e191, hx191_0⟩ := Kd.at_string (Kd.R_reads' HO_5.out).2.2 x10_2 p191 q191
                        obtain rfl : ad177 = ad191 := (by injection e191)
                        replace p191 := eq_true p191
                        replace q191 := eq_true q191
                        go_wp2_with (first | ((with_reducible refine gate_callee (f := 64) rfl ?_); refine goesL_ (some 57) rfl rfl Tryz.func64 (by kernel_rfl) rfl #[.string (rdOf ByteArray.empty t167 x10_2), .int .u8 32] rfl (by (try simp only [List.map_toArray, List.map_cons, List.map_nil]); first | done | rfl | (simp only [List.length_drop, List.length_take]; rfl)) ?_; (with_reducible refine (spec_l01Split.calls k2 (rdOf ByteArray.empty t167 x10_2) 32 t192 _ A25.out).mono ?_); rintro e w57 ⟨v193, rfl, ho0, hb⟩; refine ⟨_, rfl, ?_⟩; have n0_ := Aside0.mk (Kd.R_elder' HO_5.out (Kd.R_base ho0) hb); have n1_ := Aside0.mk (Kd.R_below HO_7.out hb); have n2_ := Aside0.mk (Kd.R_below HO_9.out hb); have n3_ := Aside0.mk (Kd.R_lower (Kd.R_new' ho0 (Kd.R_lt HO_5.out)) (below_size HB.out)); have n4_ := Aside0.mk (below_step HB.out hb); clear HO_5; clear HO_7; clear HO_9; clear HB; have HO_5 := n0_; have HO_7 := n1_; have HO_9 := n2_; have HO194 := n3_; have HB := n4_; clear n0_ n1_ n2_ n3_ n4_; (try clear hb); (try clear hb2); (try clear hk); (try clear hi); (try clear ho0); obtain ⟨Ao58, co58, eo58⟩ := Kd.R_slice HO194.out; subst eo58) | ((with_reducible refine gate_dst (N := 61) rfl ?_); refine Kd.R_lit k116 _ 116 ?hg (N := 61) ?hd (xs := ([] : List (S116))) (inner := []) (ok := fun _ => True) (okp := fun _ => True) ?hr ?hp (fun _ hk => hk) trivial (Below.refl _ _) (Nat.le_refl _) (by simp) ?_; (case hd => rfl); (case hg => rfl); (case hr => first | (go_simp; done) | (go_simp; rfl)); (case hp => exact (Reps.none _ _)); intro v196 w59 ho60 hb hg_ hnew_; clear hg_ hnew_; (first | rw [← Ny195.out] at ho60 | (simp only [Int.reduceToNat] at ho60; rw [← Ny195.out] at ho60)); have n0_ := Aside0.mk (Kd.R_below HO_5.out hb); have n1_ := Aside0.mk (Kd.R_elder' HO_7.out (Kd.R_base ho60) hb); have n2_ := Aside0.mk (Kd.R_below HO_9.out hb); have n3_ := Aside0.mk (Kd.R_below HO194.out hb); have n4_ := Aside0.mk (Kd.R_lower (Kd.R_new' ho60 (Kd.R_lt HO_7.out)) (below_size HB.out)); have n5_ := Aside0.mk (below_step HB.out hb); clear HO_5; clear HO_7; clear HO_9; clear HO194; clear HB; have HO_5 := n0_; have HO_7 := n1_; have HO_9 := n2_; have HO194 := n3_; have HO197 := n4_; have HB := n5_; clear n0_ n1_ n2_ n3_ n4_ n5_; clear hb ho60) | ((with_reducible refine gate_dst (N := 62) rfl ?_); refine Kd.R_lit k89 _ 89 ?hg (N := 62) ?hd (xs := ([] : List (S89))) (inner := []) (ok := fun _ => True) (okp := fun _ => True) ?hr ?hp (fun _ hk => hk) trivial (Below.refl _ _) (Nat.le_refl _) (by simp) ?_; (case hd => rfl); (case hg => rfl); (case hr => first | (go_simp; done) | (go_simp; rfl)); (case hp => exact (Reps.none _ _)); intro v199 w61 ho62 hb hg_ hnew_; clear hg_ hnew_; (first | rw [← Ny198.out] at ho62 | (simp only [Int.reduceToNat] at ho62; rw [← Ny198.out] at ho62)); have n0_ := Aside0.mk (Kd.R_below HO_5.out hb); have n1_ := Aside0.mk (Kd.R_below HO_7.out hb); have n2_ := Aside0.mk (Kd.R_elder' HO_9.out (Kd.R_base ho62) hb); have n3_ := Aside0.mk (Kd.R_below HO194.out hb); have n4_ := Aside0.mk (Kd.R_below HO197.out hb); have n5_ := Aside0.mk (Kd.R_lower (Kd.R_new' ho62 (Kd.R_lt HO_9.out)) (below_size HB.out)); have n6_ := Aside0.mk (below_step HB.out hb); clear HO_5; clear HO_7; clear HO_9; clear HO194; clear HO197; clear HB; have HO_5 := n0_; have HO_7 := n1_; have HO_9 := n2_; have HO194 := n3_; have HO197 := n4_; have HO200 := n5_; have HB := n6_; clear n0_ n1_ n2_ n3_ n4_ n5_ n6_; clear hb ho62))
                        go_ret3
                        exact ⟨_, _, by first | rfl | (simp [errW_none, errW_some] <;> rfl) | (simp [*, errW_none, errW_some] <;> rfl), by (with_reducible repeat (first | apply Kd.R_alloc | apply Kd.R_drewN | apply Kd.R_drew)); exact Kd.R_mono HO197.out (fun _ hk => trivial), by (with_reducible repeat (first | apply Kd.R_alloc | apply Kd.R_drewN | apply Kd.R_drew)); exact Kd.R_mono HO200.out (fun _ hk => trivial), by repeat (first | (with_reducible first | exact HB.out | apply below_alloc | apply pw_below_drewN | apply below_drew1) | exact HB.out)⟩
                    · rw [if_neg c24] at H
                      exact absurd H (by simp)
                  · rw [if_neg c23] at H
                    exact absurd H (by simp)
                · rw [if_neg c22] at H
                  have c22b0 : decide (x10_2 < (wrap64 ((t167.length : Int) - 1))) = false := decide_eq_false c22
                  clear c22
                  simp only [Option.some.injEq, Prod.mk.injEq] at H
                  obtain ⟨rfl, rfl, rfl⟩ := H
                  go_wp2
                  go_ret3
                  exact ⟨_, _, by first | rfl | (simp [errW_none, errW_some] <;> rfl) | (simp [*, errW_none, errW_some] <;> rfl), by (with_reducible repeat (first | apply Kd.R_alloc | apply Kd.R_drewN | apply Kd.R_drew)); exact HO_7.out, by (with_reducible repeat (first | apply Kd.R_alloc | apply Kd.R_drewN | apply Kd.R_drew)); exact HO_9.out, by repeat (first | (with_reducible first | exact HB.out | apply below_alloc | apply pw_below_drewN | apply below_drew1) | exact HB.out)⟩
          · rw [if_neg c18] at H
            have c18b0 : (t179 == 0) = false := beq_eq_false_iff_ne.mpr c18
            have c18b1 : (t179 != 0) = true := bne_iff_ne.mpr c18
            obtain ⟨y182, hy182⟩ : ∃ y_ : List (S116), y_ = (([] : List (S116))) := ⟨_, rfl⟩
            replace H : (some (y182, (([] : List (S89))), 5)) = some (r1, r2, r3) := by first | (rw [hy182]; with_reducible exact H) | (have H2_ := (Option.bind_some _ _).symm.trans H; rw [hy182]; with_reducible exact H2_) | (have H2_ := (Option.bind_some _ _).symm.trans H; with_reducible exact H2_) | with_reducible exact H | (rw [hy182]; exact H) | exact H
            have Ny182 := Aside0.mk hy182
            clear hy182
            obtain ⟨y185, hy185⟩ : ∃ y_ : List (S89), y_ = (([] : List (S89))) := ⟨_, rfl⟩
            replace H : (some (y182, y185, 5)) = some (r1, r2, r3) := by first | (rw [hy185]; with_reducible exact H) | (have H2_ := (Option.bind_some _ _).symm.trans H; rw [hy185]; with_reducible exact H2_) | (have H2_ := (Option.bind_some _ _).symm.trans H; with_reducible exact H2_) | with_reducible exact H | (rw [hy185]; exact H) | exact H
            have Ny185 := Aside0.mk hy185
            clear hy185
            simp only [Option.some.injEq, Prod.mk.injEq] at H
            obtain ⟨rfl, rfl, rfl⟩ := H
            have p177 : 0 ≤ (0 : Int) := (by omega)
            have q177 : 0 < (t167.length : Int) := of_decide_eq_true (by first | (with_reducible assumption) | assumption)
            obtain ⟨ad177, e177, hx177_0⟩ := Kd.at_string (Kd.R_reads' HO_5.out).2.2 0 p177 q177
            cases e177
            have qi177 : (0 < t167.length) = True := eq_true (by omega)
            (try rw [show ((0 : Int)).toNat = 0 from rfl] at hx177_0)
            (try rw [Addr.add_zero'] at hx177_0)
            replace p177 := eq_true p177
            replace q177 := eq_true q177
            go_wp2_with (first | ((with_reducible refine gate_callee (f := 65) rfl ?_); refine goesL_ (some 40) rfl rfl Tryz.func65 (by kernel_rfl) rfl #[.string (rdOf ByteArray.empty t167 0)] rfl (by (try simp only [List.map_toArray, List.map_cons, List.map_nil]); first | done | rfl | (simp only [List.length_drop, List.length_take]; rfl)) ?_; (with_reducible refine (spec_ReadCurve.calls kj2 (rdOf ByteArray.empty t167 0) t178 t179 _ A17.out).mono ?_); rintro e w63 ⟨v180, rfl, ho0, hb⟩; refine ⟨_, rfl, ?_⟩; have n0_ := Aside0.mk (Kd.R_below HO_5.out hb); have n1_ := Aside0.mk (Kd.R_lower ho0 (below_size HB.out)); have n2_ := Aside0.mk (below_step HB.out hb); clear HO_5; clear HB; have HO_5 := n0_; have HO181 := n1_; have HB := n2_; clear n0_ n1_ n2_; (try clear hb); (try clear hb2); (try clear hk); (try clear hi); (try clear ho0)) | ((with_reducible refine gate_dst (N := 45) rfl ?_); refine Kd.R_lit k116 _ 116 ?hg (N := 45) ?hd (xs := ([] : List (S116))) (inner := []) (ok := fun _ => True) (okp := fun _ => True) ?hr ?hp (fun _ hk => hk) trivial (Below.refl _ _) (Nat.le_refl _) (by simp) ?_; (case hd => rfl); (case hg => rfl); (case hr => first | (go_simp; done) | (go_simp; rfl)); (case hp => exact (Reps.none _ _)); intro v183 w64 ho65 hb hg_ hnew_; clear hg_ hnew_; (first | rw [← Ny182.out] at ho65 | (simp only [Int.reduceToNat] at ho65; rw [← Ny182.out] at ho65)); have n0_ := Aside0.mk (Kd.R_below HO_5.out hb); have n1_ := Aside0.mk (Kd.R_elder' HO181.out (Kd.R_base ho65) hb); have n2_ := Aside0.mk (Kd.R_lower (Kd.R_new' ho65 (Kd.R_lt HO181.out)) (below_size HB.out)); have n3_ := Aside0.mk (below_step HB.out hb); clear HO_5; clear HO181; clear HB; have HO_5 := n0_; have HO181 := n1_; have HO184 := n2_; have HB := n3_; clear n0_ n1_ n2_ n3_; clear hb ho65) | ((with_reducible refine gate_dst (N := 46) rfl ?_); refine Kd.R_lit k89 _ 89 ?hg (N := 46) ?hd (xs := ([] : List (S89))) (inner := []) (ok := fun _ => True) (okp := fun _ => True) ?hr ?hp (fun _ hk => hk) trivial (Below.refl _ _) (Nat.le_refl _) (by simp) ?_; (case hd => rfl); (case hg => rfl); (case hr => first | (go_simp; done) | (go_simp; rfl)); (case hp => exact (Reps.none _ _)); intro v186 w66 ho67 hb hg_ hnew_; clear hg_ hnew_; (first | rw [← Ny185.out] at ho67 | (simp only [Int.reduceToNat] at ho67; rw [← Ny185.out] at ho67)); have n0_ := Aside0.mk (Kd.R_below HO_5.out hb); have n1_ := Aside0.mk (Kd.R_below HO181.out hb); have n2_ := Aside0.mk (Kd.R_below HO184.out hb); have n3_ := Aside0.mk (Kd.R_lower ho67 (below_size HB.out)); have n4_ := Aside0.mk (below_step HB.out hb); clear HO_5; clear HO181; clear HO184; clear HB; have HO_5 := n0_; have HO181 := n1_; have HO184 := n2_; have HO187 := n3_; have HB := n4_; clear n0_ n1_ n2_ n3_ n4_; clear hb ho67))
            go_ret3
            exact ⟨_, _, by first | rfl | (simp [errW_none, errW_some] <;> rfl) | (simp [*, errW_none, errW_some] <;> rfl), by (with_reducible repeat (first | apply Kd.R_alloc | apply Kd.R_drewN | apply Kd.R_drew)); exact Kd.R_mono HO184.out (fun _ hk => trivial), by (with_reducible repeat (first | apply Kd.R_alloc | apply Kd.R_drewN | apply Kd.R_drew)); exact HO187.out, by repeat (first | (with_reducible first | exact HB.out | apply below_alloc | apply pw_below_drewN | apply below_drew1) | exact HB.out)⟩
        · rw [if_neg c16] at H
          exact absurd H (by simp)

-- NOT PRINTED: function 16 (spec_RedoLog)

-- NOT PRINTED: function 17 (laws_toNegative)

-- NOT PRINTED: function 19 (laws_eqPrint)

-- NOT PRINTED: function 4 (laws_FnExactRedoLog)

end Go.Proofs.YtiehbagnebjadaaGreatDoor.Q
