-- Written by wip/mk.py of this repository (a run of the kit's print with hand-proved leaves added); Lean checks it.
import Derived.Test.YtiehbagnebjadaaGreatDoorQx0
import Derived.Test.YtiehbagnebjadaaGreatDoorQx3
import Derived.Test.YtiehbagnebjadaaGreatDoorQx7
namespace Go.Proofs.YtiehbagnebjadaaGreatDoor.Q
open Go.RowKit Go.Proofs.YtiehbagnebjadaaGreatDoorW.PrintWords Go.Proofs.YtiehbagnebjadaaGreatDoorW.PrintLast Go.Proofs.YtiehbagnebjadaaGreatDoorW.PrintMore
attribute [local go_sem] max2_int min2_int max_two min_two max_three min_three max_four min_four   -- for this text's walks alone
set_option linter.unusedVariables false
set_option linter.unusedSimpArgs false

/-! ### impl_ValidCurve: function 107 -/
def impl_ValidCurve.f (k : Nat) (l0 : List (S116)) : Option (Bool) := (impl_isCurve.f k l0).bind fun t260 => (if t260 = true then (some (decide ((l0.length : Int) ≤ 12))) else (some false))
theorem impl_ValidCurve.mono : ∀ a0 k, LeO (impl_ValidCurve.f k a0) (impl_ValidCurve.f (k + 1) a0) := by
  intro a0 k
  unfold impl_ValidCurve.f
  repeat' first
      | (with_reducible exact impl_isCurve.mono _ _)
      | (with_reducible exact LeO.refl _)
      | (with_reducible exact LeO.none _)
      | (with_reducible refine LeO.ite ?_ ?_)
      | (with_reducible refine LeO.bind ?_ (fun _ => ?_))
      | exact impl_isCurve.mono _ _
      | exact LeO.none _
      | refine LeO.ite ?_ ?_
      | refine LeO.bind ?_ (fun _ => ?_)
set_option maxHeartbeats 8000000 in
set_option maxRecDepth 100000 in
theorem impl_ValidCurve.calls (k : Nat) (A0 : Option Addr) (c0 : Nat) (l0 : List (S116)) (r : Bool) (w : World) (hr0 : Kd.C k116 w A0 l0.length l0) (hc0 : l0.length ≤ c0) (h : impl_ValidCurve.f k l0 = some r) :
    Calls Tryz.prog 107 #[.slice A0 l0.length c0] w fun e w' => e = .returned (.bool r) ∧ Below w.heap.size w w' := by
  have HR0 := Aside0.mk hr0
  have HC0 := Aside0.mk hc0
  clear hr0 hc0
  have HB := Aside0.mk (Below.refl w.heap.size w)
  have H : ((impl_isCurve.f k l0).bind fun t260 => (if t260 = true then (some (decide ((l0.length : Int) ≤ 12))) else (some false))) = some r := h
  clear h
  replace H := Option.bind_eq_some_iff.mp H
  obtain ⟨t260, A20, H⟩ := H
  replace H : (if t260 = true then (some (decide ((l0.length : Int) ≤ 12))) else (some false)) = some r := H
  have A2 := Aside0.mk A20
  clear A20
  by_cases c3 : t260 = true
  · subst c3
    have H1 : (some (decide ((l0.length : Int) ≤ 12))) = some r := by rw [if_pos rfl] at H; exact H
    clear H
    have H := H1
    clear H1
    obtain rfl := Option.some.inj H
    go_enter Tryz.func107, Tryz.ntmps107
    go_wp2_with (first | ((with_reducible refine gate_callee (f := 160) rfl ?_); refine goesL_ (some 4) rfl rfl Tryz.func160 (by kernel_rfl) rfl #[.slice A0 l0.length c0] rfl (by (try simp only [List.map_toArray, List.map_cons, List.map_nil]); first | done | rfl | (simp only [List.length_drop, List.length_take]; rfl)) ?_; (with_reducible refine (impl_isCurve.calls k _ _ l0 true _ ?side1 ?side2 A2.out).mono ?_); (case side1 => repeat (first | exact HR0.out | (with_reducible refine Kd.C_alloc ?_ _) | (with_reducible refine Kd.C_drewN ?_ _) | (with_reducible refine Kd.C_drew ?_))); (case side2 => exact HC0.out); rintro e w4 ⟨rfl, hb⟩; refine ⟨_, rfl, ?_⟩; have n0_ := Aside0.mk (below_step HB.out hb); clear HB; have HB := n0_; clear n0_; (try clear hb); (try clear hb2); (try clear hk); (try clear hi)))
    go_ret
    exact ⟨by first | rfl | (simp [errW_none, errW_some] <;> rfl) | (simp [*, errW_none, errW_some] <;> rfl), by repeat (first | (with_reducible first | exact HB.out | apply below_alloc | apply pw_below_drewN | apply below_drew1) | exact HB.out)⟩
  · replace c3 := Bool.eq_false_iff.mpr c3
    subst c3
    have H1 : (some false) = some r := by rw [if_neg (show ¬ (false = true) by decide)] at H; exact H
    clear H
    have H := H1
    clear H1
    obtain rfl := Option.some.inj H
    go_enter Tryz.func107, Tryz.ntmps107
    go_wp2_with (first | ((with_reducible refine gate_callee (f := 160) rfl ?_); refine goesL_ (some 4) rfl rfl Tryz.func160 (by kernel_rfl) rfl #[.slice A0 l0.length c0] rfl (by (try simp only [List.map_toArray, List.map_cons, List.map_nil]); first | done | rfl | (simp only [List.length_drop, List.length_take]; rfl)) ?_; (with_reducible refine (impl_isCurve.calls k _ _ l0 false _ ?side1 ?side2 A2.out).mono ?_); (case side1 => repeat (first | exact HR0.out | (with_reducible refine Kd.C_alloc ?_ _) | (with_reducible refine Kd.C_drewN ?_ _) | (with_reducible refine Kd.C_drew ?_))); (case side2 => exact HC0.out); rintro e w5 ⟨rfl, hb⟩; refine ⟨_, rfl, ?_⟩; have n0_ := Aside0.mk (below_step HB.out hb); clear HB; have HB := n0_; clear n0_; (try clear hb); (try clear hb2); (try clear hk); (try clear hi)))
    go_ret
    exact ⟨by first | rfl | (simp [errW_none, errW_some] <;> rfl) | (simp [*, errW_none, errW_some] <;> rfl), by repeat (first | (with_reducible first | exact HB.out | apply below_alloc | apply pw_below_drewN | apply below_drew1) | exact HB.out)⟩

/-! ### impl_decimal: function 143 -/
def impl_decimal.f (a0 : Int) : Option (ByteArray) := if -9223372036854775808 ≤ a0 then (if a0 ≤ 9223372036854775807 then (some ⟨(Lib.itoa a0).toArray⟩) else (none)) else (none)
set_option maxHeartbeats 8000000 in
set_option maxRecDepth 100000 in
theorem impl_decimal.calls (a0 : Int) (r : ByteArray) (w : World) (h : impl_decimal.f a0 = some r) (hT : Tab10 w) :
    Calls Tryz.prog 143 #[.int .i64 a0] w fun e w' => e = .returned (.string r) ∧ Below w.heap.size w w' := by
  have h0 : -9223372036854775808 ≤ a0 := by unfold impl_decimal.f at h; split at h <;> simp_all
  have h1 : a0 ≤ 9223372036854775807 := by unfold impl_decimal.f at h; rw [if_pos h0] at h; split at h <;> simp_all
  have hr : (⟨(Lib.itoa a0).toArray⟩ : ByteArray) = r := by unfold impl_decimal.f at h; rw [if_pos h0, if_pos h1] at h; exact Option.some.inj h
  clear h
  subst hr
  have HB := Aside0.mk (Below.refl w.heap.size w)
  go_enter Tryz.func143, Tryz.ntmps143
  go_wp2_with fail
  refine (Any.strconv_FormatInt_10 Tryz.lays173 a0 h0 h1 _ hT.pow).mono ?_
  rintro e w' ⟨rfl, k, os, rfl⟩
  go_wp2_with fail
  go_ret
  exact ⟨rfl, below_grow _ _ _⟩


/-! ### strings_Join: function 170 -/
def strings_Join.f (l0 : List ByteArray) (a1 : ByteArray) : Option (ByteArray) := if l0.length ≤ 140737488355328 then (if (Lib.join (l0.map (·.data.toList)) a1.data.toList).length ≤ 140737488355328 then (some ⟨(Lib.join (l0.map (·.data.toList)) a1.data.toList).toArray⟩) else (none)) else (none)
theorem strings_Join.calls (A0 : Option Addr) (c0 : Nat) (l0 : List ByteArray) (a1 : ByteArray) (r : ByteArray) (w : World) (hr0 : Kd.C Kd.string w A0 l0.length l0) (hc0 : l0.length ≤ c0) (h : strings_Join.f l0 a1 = some r) (hpl : 0 < l0.length → ∃ g, A0 = some ⟨g, 0, none⟩ ∧ g < w.heap.size) :
    Calls Tryz.prog 170 #[.slice A0 l0.length c0, .string a1] w fun e w' => e = .returned (.string r) ∧ Below w.heap.size w w' := by
  unfold strings_Join.f at h
  by_cases h1 : l0.length ≤ 140737488355328
  · by_cases h2 : (Lib.join (l0.map (·.data.toList)) a1.data.toList).length ≤ 140737488355328
    · rw [if_pos h1, if_pos h2] at h
      obtain rfl := Option.some.inj h
      by_cases h0 : 0 < l0.length
      · obtain ⟨g, rfl, hg⟩ := hpl h0
        refine Any.strings_Join Tryz.lays156 Tryz.Builder_Extra_156 g 0 c0 l0 a1 w (fun j x hx => ?_) hg h1 hc0 h2
        have hj : j < l0.length := by
          rcases Nat.lt_or_ge j l0.length with h | h
          · exact h
          · rw [List.getElem?_eq_none h] at hx; simp at hx
        obtain ⟨ad, e, hc⟩ := Kd.at_string hr0 (j : Int) (by omega) (by omega)
        obtain rfl := Option.some.inj e
        rw [Int.toNat_natCast] at hc
        rw [Nat.zero_add]
        have e2 : (Addr.add ⟨g, 0, none⟩ j) = ⟨g, j, none⟩ := by unfold Addr.add; split <;> simp_all
        rw [e2] at hc
        rw [hc]
        simp [rdOf, List.getD, hx]
      · obtain rfl : l0 = [] := List.length_eq_zero_iff.1 (by omega)
        refine (Any.strings_Join_none Tryz.lays156 Tryz.Builder_Extra_156 A0 c0 a1 w).mono ?_
        rintro e w' ⟨rfl, rfl⟩
        exact ⟨rfl, Below.refl _ _⟩
    · rw [if_pos h1, if_neg h2] at h; simp at h
  · rw [if_neg h1] at h; simp at h


/-! ### impl_curveText: function 136 -/
def impl_curveText.l0 : Nat → List ByteArray → List (S116) → Int → Int → Option (ByteArray)
  | 0, _, _, _, _ => none
  | k + 1, x3, x7, x8, x9 => if x9 < x8 then (if 0 ≤ x9 then (if x9 < (x7.length : Int) then ((impl_decimal.f (wrap64 ((rd_T116 x7 x9).f0))).bind fun t266 => (if t266.size + 1 ≤ 9223372036854775807 then ((impl_decimal.f (wrap64 ((rd_T116 x7 x9).f1))).bind fun t267 => (if (t266 ++ (⟨#[58]⟩ : ByteArray)).size + t267.size ≤ 9223372036854775807 then (if x3.length < 8796093022208 then (impl_curveText.l0 k (x3 ++ [(t266 ++ (⟨#[58]⟩ : ByteArray)) ++ t267]) x7 x8 (wrap64 (x9 + 1))) else (none)) else (none))) else (none))) else (none)) else (none)) else ((strings_Join.f x3 (⟨#[32]⟩ : ByteArray)).bind fun t271 => (some t271))
def impl_curveText.f (k : Nat) (l0 : List (S116)) : Option (ByteArray) := impl_curveText.l0 k (([] : List ByteArray)) l0 (l0.length : Int) 0
theorem impl_curveText.mono_l : ∀ k, (∀ y0 y1 y2 y3, LeO (impl_curveText.l0 k y0 y1 y2 y3) (impl_curveText.l0 (k + 1) y0 y1 y2 y3))
  | 0 => fun _ _ _ _ r h => by simp [impl_curveText.l0] at h
  | k + 1 => by
    have ih0 := impl_curveText.mono_l k
    · intro y0 y1 y2 y3
      unfold impl_curveText.l0
      repeat' first
      | (with_reducible exact ih0 _ _ _ _)
      | (with_reducible exact LeO.refl _)
      | (with_reducible exact LeO.none _)
      | (with_reducible refine LeO.ite ?_ ?_)
      | (with_reducible refine LeO.bind ?_ (fun _ => ?_))
      | exact ih0 _ _ _ _
      | exact LeO.none _
      | refine LeO.ite ?_ ?_
      | refine LeO.bind ?_ (fun _ => ?_)
theorem impl_curveText.mono : ∀ a0 k, LeO (impl_curveText.f k a0) (impl_curveText.f (k + 1) a0) := by
  intro a0 k
  have ih0 := impl_curveText.mono_l k
  unfold impl_curveText.f
  repeat' first
      | (with_reducible exact ih0 _ _ _ _)
      | (with_reducible exact LeO.refl _)
      | (with_reducible exact LeO.none _)
      | (with_reducible refine LeO.ite ?_ ?_)
      | (with_reducible refine LeO.bind ?_ (fun _ => ?_))
      | exact ih0 _ _ _ _
      | exact LeO.none _
      | refine LeO.ite ?_ ?_
      | refine LeO.bind ?_ (fun _ => ?_)
def impl_curveText.T5 : Bool × List (List Nat × List Nat) := (true, [([], []), ([], []), ([1], [1]), ([2], [2]), ([3], [3]), ([4], [4]), ([], []), ([6], [6]), ([7], [7]), ([8, 4], [8]), ([5, 9], [5, 9]), ([10], [10]), ([0, 11, 9], [0, 11]), ([12, 12, 0, 1, 2, 3, 4, 5, 6, 7, 8, 9, 10, 11, 12], [0, 12])])
def impl_curveText.B5 : List Nat := [0, 0, 2, 6, 14, 30, 0, 64, 192, 478, 1022, 2046, 4095, 8191]
theorem impl_curveText.tab5 : rtab .any (opsOf Tryz.f136 5) = impl_curveText.T5 := by kernel_rfl
theorem impl_curveText.bits5 : waitsOk impl_curveText.T5.2 impl_curveText.B5 = true := by kernel_rfl
set_option maxHeartbeats 8000000 in
set_option maxRecDepth 100000 in
theorem impl_curveText.calls (k : Nat) (A0 : Option Addr) (c0 : Nat) (l0 : List (S116)) (r : ByteArray) (w : World) (hr0 : Kd.C k116 w A0 l0.length l0) (hc0 : l0.length ≤ c0) (h : impl_curveText.f k l0 = some r) (hT10 : Tab10 w) :
    Calls Tryz.prog 136 #[.slice A0 l0.length c0] w fun e w' => e = .returned (.string r) ∧ Below w.heap.size w w' := by
  have HT10 := Aside0.mk hT10
  clear hT10
  have hu116 := Tryz.underlying116
  have HR0 := Aside0.mk hr0
  have HC0 := Aside0.mk hc0
  clear hr0 hc0
  have HB := Aside0.mk (Below.refl w.heap.size w)
  have H : (impl_curveText.l0 k (([] : List ByteArray)) l0 (l0.length : Int) 0) = some r := h
  clear h
  obtain ⟨y261, hy261⟩ : ∃ y_ : List ByteArray, y_ = (([] : List ByteArray)) := ⟨_, rfl⟩
  replace H : (impl_curveText.l0 k y261 l0 (l0.length : Int) 0) = some r := by first | (rw [hy261]; with_reducible exact H) | (have H2_ := (Option.bind_some _ _).symm.trans H; rw [hy261]; with_reducible exact H2_) | (have H2_ := (Option.bind_some _ _).symm.trans H; with_reducible exact H2_) | with_reducible exact H | (rw [hy261]; exact H) | exact H
  have Ny261 := Aside0.mk hy261
  clear hy261
  have H' := Aside0.mk H
  clear H
  go_enter Tryz.func136, Tryz.ntmps136
  go_wp2_with (first | ((with_reducible refine gate_dst (N := 6) rfl ?_); refine Kd.R_lit Kd.string _ 9 ?hg (N := 6) ?hd (xs := ([] : List ByteArray)) (inner := []) (ok := fun _ => True) (okp := fun _ => True) ?hr ?hp (fun _ hk => hk) trivial (Below.refl _ _) (Nat.le_refl _) (by simp) ?_; (case hd => rfl); (case hg => rfl); (case hr => first | (go_simp; done) | (go_simp; rfl)); (case hp => exact (Reps.none _ _)); intro v262 w2 ho3 hb hg_ hnew_; clear hg_ hnew_; (first | rw [← Ny261.out] at ho3 | (simp only [Int.reduceToNat] at ho3; rw [← Ny261.out] at ho3)); have n0_ := Aside0.mk (Kd.R_lower ho3 (below_size HB.out)); have n1_ := Aside0.mk (below_step HB.out hb); clear HB; have HO263 := n0_; have HB := n1_; clear n0_ n1_; clear hb ho3))
  go_loopg [3, 9] k (fun kq v3 v9 w' => ∃ (x3_1 : List ByteArray) (x9_1 : Int), v9 = .int .i64 x9_1 ∧ Aside0 (impl_curveText.l0 kq x3_1 l0 (l0.length : Int) x9_1 = some r) ∧ Aside0 (kq ≤ k) ∧ Aside0 (Kd.R Kd.string 9 w' w.heap.size (fun _ => True) v3 x3_1) ∧ Aside0 (Below w.heap.size w w'))
  case atStart => exact ⟨(y261), (0), (by first | rfl | (simp; done) | (simp [*]; done)), H', ⟨Nat.le_refl _⟩, ⟨by (with_reducible repeat (first | apply Kd.R_alloc | apply Kd.R_drewN | apply Kd.R_drew)); exact HO263.out⟩, ⟨by repeat (first | (with_reducible first | exact HB.out | apply below_alloc | apply pw_below_drewN | apply below_drew1) | exact HB.out)⟩⟩
  case round =>
    clear H'
    try clear c1
    try clear p2
    obtain ⟨x3_1, x9_1, rfl, HA, HK1, HO_3, HB⟩ := hrel
    cases gk with
    | zero => exact absurd HA.out (by simp [impl_curveText.l0])
    | succ k1 =>
      have H := HA.out
      clear HA
      simp only [impl_curveText.l0] at H
      by_cases c4 : x9_1 < (l0.length : Int)
      · rw [if_pos c4] at H
        have c4b0 : decide (x9_1 < (l0.length : Int)) = true := decide_eq_true c4
        clear c4
        by_cases c5 : 0 ≤ x9_1
        · rw [if_pos c5] at H
          have c5b0 : decide (0 ≤ x9_1) = true := decide_eq_true c5
          clear c5
          by_cases c6 : x9_1 < (l0.length : Int)
          · rw [if_pos c6] at H
            have c6b0 : decide (x9_1 < (l0.length : Int)) = true := decide_eq_true c6
            clear c6
            replace H := Option.bind_eq_some_iff.mp H
            obtain ⟨t266, A70, H⟩ := H
            replace H : (if t266.size + 1 ≤ 9223372036854775807 then ((impl_decimal.f (wrap64 ((rd_T116 l0 x9_1).f1))).bind fun t267 => (if (t266 ++ (⟨#[58]⟩ : ByteArray)).size + t267.size ≤ 9223372036854775807 then (if x3_1.length < 8796093022208 then (impl_curveText.l0 k1 (x3_1 ++ [(t266 ++ (⟨#[58]⟩ : ByteArray)) ++ t267]) l0 (l0.length : Int) (wrap64 (x9_1 + 1))) else (none)) else (none))) else (none)) = some r := H
            have A7 := Aside0.mk A70
            clear A70
            by_cases c8 : t266.size + 1 ≤ 9223372036854775807
            · rw [if_pos c8] at H
              have c8b0 := eq_true c8
              have c8b1 : decide (t266.size + 1 ≤ 9223372036854775807) = true := decide_eq_true c8
              try have c8b2 : (9223372036854775807 < t266.size + 1) = False := eq_false (Nat.not_lt.2 c8)
              replace H := Option.bind_eq_some_iff.mp H
              obtain ⟨t267, A90, H⟩ := H
              replace H : (if (t266 ++ (⟨#[58]⟩ : ByteArray)).size + t267.size ≤ 9223372036854775807 then (if x3_1.length < 8796093022208 then (impl_curveText.l0 k1 (x3_1 ++ [(t266 ++ (⟨#[58]⟩ : ByteArray)) ++ t267]) l0 (l0.length : Int) (wrap64 (x9_1 + 1))) else (none)) else (none)) = some r := H
              have A9 := Aside0.mk A90
              clear A90
              by_cases c10 : (t266 ++ (⟨#[58]⟩ : ByteArray)).size + t267.size ≤ 9223372036854775807
              · rw [if_pos c10] at H
                have c10b0 := eq_true c10
                have c10b1 : decide ((t266 ++ (⟨#[58]⟩ : ByteArray)).size + t267.size ≤ 9223372036854775807) = true := decide_eq_true c10
                try have c10b2 : (9223372036854775807 < (t266 ++ (⟨#[58]⟩ : ByteArray)).size + t267.size) = False := eq_false (Nat.not_lt.2 c10)
                try have c10b3 := c10b2
                try simp only [ByteArray.size_append, show (⟨#[32]⟩ : ByteArray).size = 1 from rfl, show (⟨#[58]⟩ : ByteArray).size = 1 from rfl] at c10b3
                by_cases c11 : x3_1.length < 8796093022208
                · rw [if_pos c11] at H
                  have LMc11 := Aside0.mk c11
                  clear c11
                  obtain ⟨y268, hy268⟩ : ∃ y_ : List ByteArray, y_ = (x3_1 ++ [(t266 ++ (⟨#[58]⟩ : ByteArray)) ++ t267]) := ⟨_, rfl⟩
                  replace H : (impl_curveText.l0 k1 y268 l0 (l0.length : Int) (wrap64 (x9_1 + 1))) = some r := by first | (rw [hy268]; with_reducible exact H) | (have H2_ := (Option.bind_some _ _).symm.trans H; rw [hy268]; with_reducible exact H2_) | (have H2_ := (Option.bind_some _ _).symm.trans H; with_reducible exact H2_) | with_reducible exact H | (rw [hy268]; exact H) | exact H
                  have Ny268 := Aside0.mk hy268
                  clear hy268
                  have H' := Aside0.mk H
                  clear H
                  have p264 : 0 ≤ (x9_1 : Int) := of_decide_eq_true (by first | (with_reducible assumption) | assumption)
                  have q264 : x9_1 < (l0.length : Int) := of_decide_eq_true (by first | (with_reducible assumption) | assumption)
                  obtain ⟨ad264, e264, hx264_0, hx264_1⟩ := at_T116 HR0.out x9_1 p264 q264
                  cases e264
                  replace hx264_0 := (HB.out.cell (World.block_lt_of_cell? w _ hx264_0)).trans hx264_0
                  replace hx264_1 := (HB.out.cell (World.block_lt_of_cell? w _ hx264_1)).trans hx264_1
                  replace p264 := eq_true p264
                  replace q264 := eq_true q264
                  try go_wp2_with (first | ((with_reducible refine gate_dst (N := 5) rfl ?_); refine box_event ?hg (N := 5) ?hd (cs := #[.int .i16 0, .int .i16 0]) (t := 116) ?hr ?_; (case hd => rfl); (case hg => rfl); (case hr => first | (go_simp; done) | (go_simp; rfl)); intro gb265 hg w12 hbox hb; have n0_ := Aside0.mk (Kd.R_below HO_3.out hb); have n1_ := Aside0.mk (below_step HB.out hb); have n2_ := Aside0.mk (hbox); have n3_ := Aside0.mk ((by rw [hg]; exact (below_size HB.out) : w.heap.size ≤ gb265)); have n4_ := Aside0.mk ((by rw [hg]; exact (below_size HB.out) : w.heap.size ≤ gb265)); clear HO_3; clear HB; have HO_3 := n0_; have HB := n1_; have BK265 := n2_; have GW265 := n3_; have GE265 := n4_; clear n0_ n1_ n2_ n3_ n4_; clear hb hbox hg; have hcz13_0 := blk_c BK265.out 0 rfl; have hcz13_1 := blk_c BK265.out 1 rfl; have hfz13_0 := blk_frozen BK265.out 0; have hfz13_1 := blk_frozen BK265.out 1))
                  have n0_ : Aside0 (Kd.R Kd.string 9 ((w12.setCell ⟨gb265, 0, none⟩ (.int .i16 ((rd_T116 l0 x9_1).f0))).setCell ⟨gb265, 1, none⟩ (.int .i16 ((rd_T116 l0 x9_1).f1))) w.heap.size (fun _ => True) u3 x3_1) := ⟨by (with_reducible repeat (first | apply Kd.R_alloc | apply Kd.R_drewN | apply Kd.R_drew)); exact Kd.R_mono (Kd.R_far (p := ⟨gb265, 1, none⟩) (Kd.R_far (p := ⟨gb265, 0, none⟩) (Kd.R_types HO_3.out BK265.out (by decide)) (fun _ hk => hk.2) (.int .i16 ((rd_T116 l0 x9_1).f0))) (fun _ hk => hk.2) (.int .i16 ((rd_T116 l0 x9_1).f1))) (fun _ hk => trivial)⟩
                  have n1_ : Aside0 (((w12.setCell ⟨gb265, 0, none⟩ (.int .i16 ((rd_T116 l0 x9_1).f0))).setCell ⟨gb265, 1, none⟩ (.int .i16 ((rd_T116 l0 x9_1).f1))).heap[gb265]? = some (.cells #[.int .i16 ((rd_T116 l0 x9_1).f0), .int .i16 ((rd_T116 l0 x9_1).f1)] 116 (0, 0))) := ⟨by (with_reducible repeat (first | refine blk_drewN ?_ _ | refine blk_drew ?_ | refine blk_alloc ?_ _)); refine blk_put (cs := #[.int .i16 ((rd_T116 l0 x9_1).f0), .int .i16 0]) ?_ 1 _ rfl; (with_reducible repeat (first | refine blk_drewN ?_ _ | refine blk_drew ?_ | refine blk_alloc ?_ _)); refine blk_put (cs := #[.int .i16 0, .int .i16 0]) ?_ 0 _ rfl; (with_reducible repeat (first | refine blk_drewN ?_ _ | refine blk_drew ?_ | refine blk_alloc ?_ _)); exact BK265.out⟩
                  have n2_ : Aside0 (Below w.heap.size w ((w12.setCell ⟨gb265, 0, none⟩ (.int .i16 ((rd_T116 l0 x9_1).f0))).setCell ⟨gb265, 1, none⟩ (.int .i16 ((rd_T116 l0 x9_1).f1)))) := ⟨by repeat (first | (with_reducible first | exact HB.out | apply below_alloc | apply pw_below_drewN | apply below_drew1 | refine below_set ?_ GE265.out) | exact HB.out)⟩
                  (try clear HO_3)
                  (try clear BK265)
                  (try clear HB)
                  generalize ((w12.setCell ⟨gb265, 0, none⟩ (.int .i16 ((rd_T116 l0 x9_1).f0))).setCell ⟨gb265, 1, none⟩ (.int .i16 ((rd_T116 l0 x9_1).f1))) = w14 at n0_ n1_ n2_ ⊢
                  have HO_3 := n0_
                  have BK265 := n1_
                  have HB := n2_
                  clear n0_ n1_ n2_
                  have n0_ := Aside0.mk (Kd.R_drew HO_3.out)
                  have n1_ := Aside0.mk (blk_drew BK265.out)
                  have n2_ := Aside0.mk (below_drew1 HB.out)
                  clear HO_3
                  clear BK265
                  clear HB
                  have HO_3 := n0_
                  have BK265 := n1_
                  have HB := n2_
                  clear n0_ n1_ n2_
                  refine start_ (n := 14) (S := fun w' => w'.cell? ⟨gb265, 0, none⟩ = some (.int .i16 ((rd_T116 l0 x9_1).f0)) ∧ w'.cell? ⟨gb265, 1, none⟩ = some (.int .i16 ((rd_T116 l0 x9_1).f1))) (ds := []) #[false, false, false, false, false, false, false, false, false, false, false, false, false, false] (by kernel_rfl) rfl rfl ⟨(blk_cell BK265.out 0).trans rfl, (blk_cell BK265.out 1).trans rfl⟩ (fun hHeld => ?_); refine with_tabW impl_curveText.tab5 impl_curveText.bits5 (fun HT_ HW_ => ?_)
                  generalize w14.drew = w15 at HO_3 BK265 HB hHeld ⊢
                  refine pure_ (i := 0) (N := some 13) (v := ?_) (a' := ?_) #[true, false, false, false, false, false, false, false, false, false, false, false, false, false] rfl rfl (any_of HT_.out (by kernel_rfl)) (fun _ _ _ h => h) (Or.inl ⟨by rfl, ?_⟩) ?_ ?_
                  rotate_left
                  · intro w'
                    go_simp
                    first | with_reducible rfl | (rw [if_neg (by (try simp only [ByteArray.size_append, show (⟨#[32]⟩ : ByteArray).size = 1 from rfl, show (⟨#[58]⟩ : ByteArray).size = 1 from rfl] at c8); (try simp only [ByteArray.size_append, show (⟨#[32]⟩ : ByteArray).size = 1 from rfl, show (⟨#[58]⟩ : ByteArray).size = 1 from rfl] at c10); omega)]; try with_reducible rfl)
                  rotate_left
                  · simp only [Act.put, List.setIfInBounds_toArray, List.set_cons_zero, List.set_cons_succ, i64_w, i32_w]
                    rfl
                  refine pure_ (i := 1) (N := some 14) (v := ?_) (a' := ?_) #[true, true, false, false, false, false, false, false, false, false, false, false, false, false] rfl rfl (any_of HT_.out (by kernel_rfl)) (fun _ _ _ h => h) (Or.inl ⟨by rfl, ?_⟩) ?_ ?_
                  rotate_left
                  · intro w'
                    go_simp
                    first | with_reducible rfl | (rw [if_neg (by (try simp only [ByteArray.size_append, show (⟨#[32]⟩ : ByteArray).size = 1 from rfl, show (⟨#[58]⟩ : ByteArray).size = 1 from rfl] at c8); (try simp only [ByteArray.size_append, show (⟨#[32]⟩ : ByteArray).size = 1 from rfl, show (⟨#[58]⟩ : ByteArray).size = 1 from rfl] at c10); omega)]; try with_reducible rfl)
                  rotate_left
                  · simp only [Act.put, List.setIfInBounds_toArray, List.set_cons_zero, List.set_cons_succ, i64_w, i32_w]
                    rfl
                  refine pure_ (i := 6) (N := some 19) (v := ?_) (a' := ?_) #[true, true, false, false, false, false, true, false, false, false, false, false, false, false] rfl rfl (any_of HT_.out (by kernel_rfl)) (fun _ _ _ h => h) (Or.inl ⟨by rfl, ?_⟩) ?_ ?_
                  rotate_left
                  · intro w'
                    go_simp
                    first | with_reducible rfl | (rw [if_neg (by (try simp only [ByteArray.size_append, show (⟨#[32]⟩ : ByteArray).size = 1 from rfl, show (⟨#[58]⟩ : ByteArray).size = 1 from rfl] at c8); (try simp only [ByteArray.size_append, show (⟨#[32]⟩ : ByteArray).size = 1 from rfl, show (⟨#[58]⟩ : ByteArray).size = 1 from rfl] at c10); omega)]; try with_reducible rfl)
                  rotate_left
                  · simp only [Act.put, List.setIfInBounds_toArray, List.set_cons_zero, List.set_cons_succ, i64_w, i32_w]
                    rfl
                  refine take_ (i := 2) (N := some 15) (v := ?_) (a' := ?_) #[true, true, true, false, false, false, true, false, false, false, false, false, false, false] rfl rfl (take_ofW HT_.out HW_.out (by kernel_rfl)) (fun _ _ _ h => h) (Or.inl ⟨by rfl, ?_⟩) hHeld ?_ ?_
                  rotate_left
                  · rintro w' ⟨s0, s1⟩
                    go_simp
                    first | with_reducible rfl | (rw [if_neg (by (try simp only [ByteArray.size_append, show (⟨#[32]⟩ : ByteArray).size = 1 from rfl, show (⟨#[58]⟩ : ByteArray).size = 1 from rfl] at c8); (try simp only [ByteArray.size_append, show (⟨#[32]⟩ : ByteArray).size = 1 from rfl, show (⟨#[58]⟩ : ByteArray).size = 1 from rfl] at c10); omega)]; try with_reducible rfl)
                  rotate_left
                  · simp only [Act.put, List.setIfInBounds_toArray, List.set_cons_zero, List.set_cons_succ, i64_w, i32_w]
                    rfl
                  refine pure_ (i := 3) (N := some 16) (v := ?_) (a' := ?_) #[true, true, true, true, false, false, true, false, false, false, false, false, false, false] rfl rfl (any_of HT_.out (by kernel_rfl)) (fun _ _ _ h => h) (Or.inl ⟨by rfl, ?_⟩) ?_ ?_
                  rotate_left
                  · intro w'
                    go_simp
                    first | with_reducible rfl | (rw [if_neg (by (try simp only [ByteArray.size_append, show (⟨#[32]⟩ : ByteArray).size = 1 from rfl, show (⟨#[58]⟩ : ByteArray).size = 1 from rfl] at c8); (try simp only [ByteArray.size_append, show (⟨#[32]⟩ : ByteArray).size = 1 from rfl, show (⟨#[58]⟩ : ByteArray).size = 1 from rfl] at c10); omega)]; try with_reducible rfl)
                  rotate_left
                  · simp only [Act.put, List.setIfInBounds_toArray, List.set_cons_zero, List.set_cons_succ, i64_w, i32_w]
                    rfl
                  refine take_ (i := 7) (N := some 20) (v := ?_) (a' := ?_) #[true, true, true, true, false, false, true, true, false, false, false, false, false, false] rfl rfl (take_ofW HT_.out HW_.out (by kernel_rfl)) (fun _ _ _ h => h) (Or.inl ⟨by rfl, ?_⟩) hHeld ?_ ?_
                  rotate_left
                  · rintro w' ⟨s0, s1⟩
                    go_simp
                    first | with_reducible rfl | (rw [if_neg (by (try simp only [ByteArray.size_append, show (⟨#[32]⟩ : ByteArray).size = 1 from rfl, show (⟨#[58]⟩ : ByteArray).size = 1 from rfl] at c8); (try simp only [ByteArray.size_append, show (⟨#[32]⟩ : ByteArray).size = 1 from rfl, show (⟨#[58]⟩ : ByteArray).size = 1 from rfl] at c10); omega)]; try with_reducible rfl)
                  rotate_left
                  · simp only [Act.put, List.setIfInBounds_toArray, List.set_cons_zero, List.set_cons_succ, i64_w, i32_w]
                    rfl
                  refine pure_ (i := 8) (N := some 21) (v := ?_) (a' := ?_) #[true, true, true, true, false, false, true, true, true, false, false, false, false, false] rfl rfl (any_of HT_.out (by kernel_rfl)) (fun _ _ _ h => h) (Or.inl ⟨by rfl, ?_⟩) ?_ ?_
                  rotate_left
                  · intro w'
                    go_simp
                    first | with_reducible rfl | (rw [if_neg (by (try simp only [ByteArray.size_append, show (⟨#[32]⟩ : ByteArray).size = 1 from rfl, show (⟨#[58]⟩ : ByteArray).size = 1 from rfl] at c8); (try simp only [ByteArray.size_append, show (⟨#[32]⟩ : ByteArray).size = 1 from rfl, show (⟨#[58]⟩ : ByteArray).size = 1 from rfl] at c10); omega)]; try with_reducible rfl)
                  rotate_left
                  · simp only [Act.put, List.setIfInBounds_toArray, List.set_cons_zero, List.set_cons_succ, i64_w, i32_w]
                    rfl
                  refine one_ (i := 4) (N := some 17) #[true, true, true, true, true, false, true, true, true, false, false, false, false, false] rfl rfl (one_of HT_.out (by kernel_rfl)) (by decide) (fun K hK => ?_)
                  refine goes_ Tryz.func143 (by kernel_rfl) rfl #[.int .i64 (wrap64 ((rd_T116 l0 x9_1).f0))] (by rfl) rfl rfl (by (try simp only [List.map_toArray, List.map_cons, List.map_nil]); first | done | rfl | (simp only [List.length_drop, List.length_take]; rfl)) ?_
                  with_reducible refine (impl_decimal.calls (wrap64 ((rd_T116 l0 x9_1).f0)) t266 _ A7.out (by repeat (first | exact HT10.out.below HB.out | exact HT10.out | exact HT10.out.below (by repeat (first | (with_reducible first | exact HB.out | apply below_alloc | apply pw_below_drewN | apply below_drew1) | refine below_set ?_ (Aside0.out (by assumption)) | exact HB.out)) | refine Tab10.alloc ?_ _ | refine Tab10.drewN ?_ _ | refine Tab10.drew ?_))).mono ?_
                  rintro e w16 ⟨rfl, hb⟩
                  refine ⟨_, rfl, ?_⟩
                  have n0_ := Aside0.mk (Kd.R_below (by (with_reducible repeat (first | apply Kd.R_alloc | apply Kd.R_drewN | apply Kd.R_drew)); exact HO_3.out) hb)
                  have n1_ := Aside0.mk (blk_below BK265.out hb)
                  have n2_ := Aside0.mk (below_step HB.out hb)
                  clear HO_3
                  clear BK265
                  clear HB
                  have HO_3 := n0_
                  have BK265 := n1_
                  have HB := n2_
                  clear n0_ n1_ n2_
                  (try clear hb)
                  (try clear hb2)
                  (try clear hk)
                  (try clear hi)
                  refine hK.out _ _ ⟨(blk_cell BK265.out 0).trans rfl, (blk_cell BK265.out 1).trans rfl⟩ (fun hHeld => ?_)
                  clear hK K
                  refine norm_ (a' := ?_) ?_ ?_
                  rotate_left
                  · show Act.put _ (some 17) _ = _
                    simp only [Act.put, List.setIfInBounds_toArray, List.set_cons_zero, List.set_cons_succ, i64_w, i32_w]
                    rfl
                  refine pure_ (i := 5) (N := some 18) (v := ?_) (a' := ?_) #[true, true, true, true, true, true, true, true, true, false, false, false, false, false] rfl rfl (any_of HT_.out (by kernel_rfl)) (fun _ _ _ h => h) (Or.inl ⟨by rfl, ?_⟩) ?_ ?_
                  rotate_left
                  · intro w'
                    go_simp
                    first | with_reducible rfl | (rw [if_neg (by (try simp only [ByteArray.size_append, show (⟨#[32]⟩ : ByteArray).size = 1 from rfl, show (⟨#[58]⟩ : ByteArray).size = 1 from rfl] at c8); (try simp only [ByteArray.size_append, show (⟨#[32]⟩ : ByteArray).size = 1 from rfl, show (⟨#[58]⟩ : ByteArray).size = 1 from rfl] at c10); omega)]; try with_reducible rfl)
                  rotate_left
                  · simp only [Act.put, List.setIfInBounds_toArray, List.set_cons_zero, List.set_cons_succ, i64_w, i32_w]
                    rfl
                  refine one_ (i := 9) (N := some 22) #[true, true, true, true, true, true, true, true, true, true, false, false, false, false] rfl rfl (one_of HT_.out (by kernel_rfl)) (by decide) (fun K hK => ?_)
                  refine goes_ Tryz.func143 (by kernel_rfl) rfl #[.int .i64 (wrap64 ((rd_T116 l0 x9_1).f1))] (by rfl) rfl rfl (by (try simp only [List.map_toArray, List.map_cons, List.map_nil]); first | done | rfl | (simp only [List.length_drop, List.length_take]; rfl)) ?_
                  with_reducible refine (impl_decimal.calls (wrap64 ((rd_T116 l0 x9_1).f1)) t267 _ A9.out (by repeat (first | exact HT10.out.below HB.out | exact HT10.out | exact HT10.out.below (by repeat (first | (with_reducible first | exact HB.out | apply below_alloc | apply pw_below_drewN | apply below_drew1) | refine below_set ?_ (Aside0.out (by assumption)) | exact HB.out)) | refine Tab10.alloc ?_ _ | refine Tab10.drewN ?_ _ | refine Tab10.drew ?_))).mono ?_
                  rintro e w17 ⟨rfl, hb⟩
                  refine ⟨_, rfl, ?_⟩
                  have n0_ := Aside0.mk (Kd.R_below (by (with_reducible repeat (first | apply Kd.R_alloc | apply Kd.R_drewN | apply Kd.R_drew)); exact HO_3.out) hb)
                  have n1_ := Aside0.mk (blk_below BK265.out hb)
                  have n2_ := Aside0.mk (below_step HB.out hb)
                  clear HO_3
                  clear BK265
                  clear HB
                  have HO_3 := n0_
                  have BK265 := n1_
                  have HB := n2_
                  clear n0_ n1_ n2_
                  (try clear hb)
                  (try clear hb2)
                  (try clear hk)
                  (try clear hi)
                  refine hK.out _ _ ⟨(blk_cell BK265.out 0).trans rfl, (blk_cell BK265.out 1).trans rfl⟩ (fun hHeld => ?_)
                  clear hK K
                  refine norm_ (a' := ?_) ?_ ?_
                  rotate_left
                  · show Act.put _ (some 22) _ = _
                    simp only [Act.put, List.setIfInBounds_toArray, List.set_cons_zero, List.set_cons_succ, i64_w, i32_w]
                    rfl
                  refine pure_ (i := 10) (N := some 23) (v := ?_) (a' := ?_) #[true, true, true, true, true, true, true, true, true, true, true, false, false, false] rfl rfl (any_of HT_.out (by kernel_rfl)) (fun _ _ _ h => h) (Or.inl ⟨by rfl, ?_⟩) ?_ ?_
                  rotate_left
                  · intro w'
                    go_simp
                    first | with_reducible rfl | (rw [if_neg (by (try simp only [ByteArray.size_append, show (⟨#[32]⟩ : ByteArray).size = 1 from rfl, show (⟨#[58]⟩ : ByteArray).size = 1 from rfl] at c8); (try simp only [ByteArray.size_append, show (⟨#[32]⟩ : ByteArray).size = 1 from rfl, show (⟨#[58]⟩ : ByteArray).size = 1 from rfl] at c10); omega)]; try with_reducible rfl)
                  rotate_left
                  · simp only [Act.put, List.setIfInBounds_toArray, List.set_cons_zero, List.set_cons_succ, i64_w, i32_w]
                    rfl
                  refine one_ (i := 11) (N := some 24) #[true, true, true, true, true, true, true, true, true, true, true, true, false, false] rfl rfl (one_of HT_.out (by kernel_rfl)) (by decide) (fun K hK => ?_)
                  refine value_ (w1 := ?_) (v := ?_) (by rfl) rfl ?_ ?_
                  rotate_left 2
                  · go_simp
                    constructor
                    · rfl
                    · rfl
                  refine hK.out _ _ ⟨(blk_cell (blk_alloc BK265.out _) 0).trans rfl, (blk_cell (blk_alloc BK265.out _) 1).trans rfl⟩ (fun hHeld => ?_)
                  clear hK K
                  refine norm_ (a' := ?_) ?_ ?_
                  rotate_left
                  · show Act.put _ (some 24) _ = _
                    simp only [Act.put, List.setIfInBounds_toArray, List.set_cons_zero, List.set_cons_succ, i64_w, i32_w]
                    rfl
                  refine one_ (i := 12) (N := some 25) #[true, true, true, true, true, true, true, true, true, true, true, true, true, false] rfl rfl (one_of HT_.out (by kernel_rfl)) (by decide) (fun K hK => ?_)
                  refine Kd.R_append_step Kd.string (w0 := w) w.heap.size (by rfl) (.tmp 13) (.tmp 24) 96 9 (.string ⟨#[]⟩) 16 rfl Tryz.underlying96 info9 rfl (by decide) (by omega) u3 x3_1 ((t266 ++ (⟨#[58]⟩ : ByteArray)) ++ t267) [.string ((t266 ++ (⟨#[58]⟩ : ByteArray)) ++ t267)] (fun _ => True) (fun _ => False) rfl rfl ?aP (fun _ hk => hk.elim) ?aF ?aO ?aB ?aS ?aL ?_
                  (case aP => exact rfl)
                  (case aB => exact HB.out)
                  (case aF => exact (fun _ _ => trivial))
                  (case aO => exact (by (with_reducible repeat (first | apply Kd.R_alloc | apply Kd.R_drewN | apply Kd.R_drew)); exact HO_3.out))
                  (case aS => exact (below_size HB.out))
                  (case aL => have := LMc11.out; omega)
                  intro v269 w18 ho hb hg hat
                  rw [← Ny268.out] at ho
                  have n0_ := Aside0.mk (blk_grown BK265.out hg (Kd.R_ne HO_3.out BK265.out (by decide)))
                  have n1_ := Aside0.mk (hb)
                  have n2_ := Aside0.mk (ho)
                  clear BK265
                  clear HB
                  clear HO_3
                  have BK265 := n0_
                  have HB := n1_
                  have HO270 := n2_
                  clear n0_ n1_ n2_
                  clear ho hb hg hat
                  refine hK.out _ _ ⟨(blk_cell BK265.out 0).trans rfl, (blk_cell BK265.out 1).trans rfl⟩ (fun hHeld => ?_)
                  clear hK K
                  refine norm_ (a' := ?_) ?_ ?_
                  rotate_left
                  · show Act.put _ (some 25) _ = _
                    simp only [Act.put, List.setIfInBounds_toArray, List.set_cons_zero, List.set_cons_succ, i64_w, i32_w]
                    rfl
                  refine pure_ (i := 13) (N := some 3) (v := ?_) (a' := ?_) #[true, true, true, true, true, true, true, true, true, true, true, true, true, true] rfl rfl (any_of HT_.out (by kernel_rfl)) (fun _ _ _ h => h) (Or.inl ⟨by rfl, ?_⟩) ?_ ?_
                  rotate_left
                  · intro w'
                    go_simp
                    first | with_reducible rfl | (rw [if_neg (by (try simp only [ByteArray.size_append, show (⟨#[32]⟩ : ByteArray).size = 1 from rfl, show (⟨#[58]⟩ : ByteArray).size = 1 from rfl] at c8); (try simp only [ByteArray.size_append, show (⟨#[32]⟩ : ByteArray).size = 1 from rfl, show (⟨#[58]⟩ : ByteArray).size = 1 from rfl] at c10); omega)]; try with_reducible rfl)
                  rotate_left
                  · simp only [Act.put, List.setIfInBounds_toArray, List.set_cons_zero, List.set_cons_succ, i64_w, i32_w]
                    rfl
                  refine done_ (done_of HT_.out (by kernel_rfl)) ?_
                  try go_wp2
                  go_roundg k1
                  case measure => have := HK1.out; omega
                  case rel => exact ⟨(y268), (wrap64 (x9_1 + 1)), (by first | rfl | (simp; done) | (simp [*]; done)), H', ⟨by have := HK1.out; omega⟩, ⟨by (with_reducible repeat (first | apply Kd.R_alloc | apply Kd.R_drewN | apply Kd.R_drew)); exact HO270.out⟩, ⟨by repeat (first | (with_reducible first | exact HB.out | apply below_alloc | apply pw_below_drewN | apply below_drew1 | refine below_set ?_ GE265.out) | exact HB.out)⟩⟩
                · rw [if_neg c11] at H
                  exact absurd H (by simp)
              · rw [if_neg c10] at H
                exact absurd H (by simp)
            · rw [if_neg c8] at H
              exact absurd H (by simp)
          · rw [if_neg c6] at H
            exact absurd H (by simp)
        · rw [if_neg c5] at H
          exact absurd H (by simp)
      · rw [if_neg c4] at H
        have c4b0 : decide (x9_1 < (l0.length : Int)) = false := decide_eq_false c4
        clear c4
        replace H := Option.bind_eq_some_iff.mp H
        obtain ⟨t271, A190, H⟩ := H
        replace H : (some t271) = some r := H
        have A19 := Aside0.mk A190
        clear A190
        obtain rfl := Option.some.inj H
        obtain ⟨Ao20, co20, eo20⟩ := Kd.R_slice HO_3.out
        subst eo20
        go_wp2_with (first | ((with_reducible refine gate_callee (f := 170) rfl ?_); refine goesL_ (some 28) rfl rfl Tryz.func170 (by kernel_rfl) rfl #[.slice Ao20 x3_1.length co20, .string (⟨#[32]⟩ : ByteArray)] rfl (by (try simp only [List.map_toArray, List.map_cons, List.map_nil]); first | done | rfl | (simp only [List.length_drop, List.length_take]; rfl)) ?_; (with_reducible refine (strings_Join.calls _ _ x3_1 (⟨#[32]⟩ : ByteArray) t271 _ ?side1 ?side2 A19.out (fun hp_ => by obtain ⟨g_, cap_, he_, _, hl_, _⟩ := Kd.R_form HO_3.out hp_; injection he_ with h1_ _ _; exact ⟨g_, h1_, hl_⟩)).mono ?_); (case side1 => repeat (first | exact (Kd.R_reads' HO_3.out).2.2 | (with_reducible refine Kd.C_alloc ?_ _) | (with_reducible refine Kd.C_drewN ?_ _) | (with_reducible refine Kd.C_drew ?_))); (case side2 => exact (Kd.R_reads' HO_3.out).2.1); rintro e w21 ⟨rfl, hb⟩; refine ⟨_, rfl, ?_⟩; have n0_ := Aside0.mk (Kd.R_below HO_3.out hb); have n1_ := Aside0.mk (below_step HB.out hb); clear HO_3; clear HB; have HO_3 := n0_; have HB := n1_; clear n0_ n1_; (try clear hb); (try clear hb2); (try clear hk); (try clear hi)))
        go_ret
        exact ⟨by first | rfl | (simp [errW_none, errW_some] <;> rfl) | (simp [*, errW_none, errW_some] <;> rfl), by repeat (first | (with_reducible first | exact HB.out | apply below_alloc | apply pw_below_drewN | apply below_drew1) | exact HB.out)⟩

/-! ### impl_ReadCurve: function 70 -/
/-- what a word of a curve's text says -/
def D_readPoint (s : ByteArray) : Option S116 :=
  match Lib.parseIntB 16 (Lib.cut s.data.toList [58]).1 with
  | .ok a => match Lib.parseIntB 16 (Lib.cut s.data.toList [58]).2.1 with
    | .ok b => some ⟨IntKind.i16.wrap a, IntKind.i16.wrap b⟩
    | _ => none
  | _ => none
def D_readPts : List ByteArray → List S116 → Option (List S116)
  | [], o => some o
  | s :: r, o => match D_readPoint s with | some x => D_readPts r (o ++ [x]) | none => none
def D_readWords13 (a : ByteArray) : List ByteArray := Lib.splitB ⟨#[32]⟩ 0 (min 13 (a.size + 1) - 1) a
theorem readc_some {s : ByteArray} {a b : Int} (h : Lib.parseIntB 16 (⟨(Lib.cut s.data.toList [58]).1.toArray⟩ : ByteArray).data.toList = .ok a) (h2 : Lib.parseIntB 16 (⟨(Lib.cut s.data.toList [58]).2.1.toArray⟩ : ByteArray).data.toList = .ok b) : D_readPoint s = some ⟨IntKind.i16.wrap a, IntKind.i16.wrap b⟩ := by
  simp only [List.toList_toArray] at h h2
  unfold D_readPoint
  rw [h]
  simp only []
  rw [h2]
theorem readc_none1 {s : ByteArray} (h : ∀ v, Lib.parseIntB 16 (⟨(Lib.cut s.data.toList [58]).1.toArray⟩ : ByteArray).data.toList ≠ .ok v) : D_readPoint s = none := by
  simp only [List.toList_toArray] at h
  unfold D_readPoint
  split
  · rename_i v hv; exact absurd hv (h v)
  · rfl
theorem readc_none2 {s : ByteArray} (h : ∀ v, Lib.parseIntB 16 (⟨(Lib.cut s.data.toList [58]).2.1.toArray⟩ : ByteArray).data.toList ≠ .ok v) : D_readPoint s = none := by
  simp only [List.toList_toArray] at h
  unfold D_readPoint
  split
  · split
    · rename_i v hv; exact absurd hv (h v)
    · rfl
  · rfl
theorem readc_parse (s : ByteArray) (hs : s.size ≤ 2097152) (w : World) (hT : Tab10 w) :
    Calls Tryz.prog 73 #[.string s, .int .i64 10, .int .i64 16] w fun e w' => ∃ (n : Int) (ev : Value), e = .returned (.tuple #[.int .i64 n, ev]) ∧ ((Lib.parseIntB 16 s.data.toList = .ok n ∧ ev = .nilIface) ∨ ((∀ v, Lib.parseIntB 16 s.data.toList ≠ .ok v) ∧ ∃ t p, ev = .iface t p)) ∧ Below w.heap.size w w' := by
  rcases h : Lib.parseIntB 16 s.data.toList with v | _ | _
  · refine (Any.strconv_ParseInt_10_at16_ok Tryz.lays174 s (by omega) v h w).mono ?_
    rintro e w' ⟨rfl, hw⟩
    refine ⟨v, .nilIface, rfl, Or.inl ⟨rfl, rfl⟩, ?_⟩
    rcases hw with rfl | ⟨t, rfl⟩
    · exact Below.refl _ _
    · exact Lib.bytesWorld_below _ _ _
  · obtain ⟨ev, he, hev⟩ := hT.syn
    refine (Any.strconv_ParseInt_10_at16_syntax Tryz.lays174 s (by omega) h ev w he hev).mono ?_
    rintro e w' ⟨N, rfl, _, _, hb⟩
    exact ⟨_, _, rfl, Or.inr ⟨(by simp), _, _, rfl⟩, hb⟩
  · obtain ⟨ev, he, hev⟩ := hT.ran
    refine (Any.strconv_ParseInt_10_at16_range Tryz.lays174 s (by omega) h ev w he hev).mono ?_
    rintro e w' ⟨N, rfl, _, _, hb⟩
    exact ⟨_, _, rfl, Or.inr ⟨(by simp), _, _, rfl⟩, hb⟩
theorem readc_cell {W : World} {g : Nat} {L : List ByteArray} {cap : Nat} {T : TypeId} (h : W.heap[g]? = some (.cells (Lib.cellsOf L cap) T (0, 0))) (j : Nat) (hj : j < L.length) : W.cell? ⟨g, j, none⟩ = some (.string (L[j]'hj)) := by
  rw [cell_of_row _ g j (Lib.cellsOf L cap) T (0, 0) h]
  simp [Lib.cellsOf, List.getElem?_append_left, hj]
theorem readc_size (sep : ByteArray) : ∀ (k : Nat) (s x : ByteArray), x ∈ Lib.splitB sep 0 k s → x.size ≤ s.size
  | 0, s, x, h => by
    rw [Lib.splitB_zero] at h
    rw [List.mem_singleton.1 h]
    exact Nat.le_refl _
  | k + 1, s, x, h => by
    unfold Lib.splitB at h
    split at h
    · rw [List.mem_singleton.1 h]; exact Nat.le_refl _
    · rcases List.mem_cons.1 h with rfl | h
      · rw [ByteArray.size_extract]; omega
      · have := readc_size sep k _ x h
        rw [ByteArray.size_extract] at this
        omega
theorem readc_cut (l s : List UInt8) : (Lib.cut l s).1.length ≤ l.length ∧ (Lib.cut l s).2.1.length ≤ l.length := by
  unfold Lib.cut
  split
  · simp only [List.length_drop, List.length_take]; omega
  · simp
theorem readc_arr (l : List UInt8) (x : ByteArray) (h1 : l.length ≤ x.data.toList.length) (h2 : x.size ≤ 1048576) : (⟨l.toArray⟩ : ByteArray).size ≤ 2097152 := by
  have h3 : x.data.toList.length = x.size := by rw [Array.length_toList]; rfl
  show l.toArray.size ≤ 2097152
  rw [List.size_toArray]
  omega
set_option maxHeartbeats 8000000 in
set_option maxRecDepth 100000 in
theorem impl_ReadCurve.walk (a0 : ByteArray) (hs : a0.size ≤ 1048576) (w : World) (m : Int) (hm : w.cell? ⟨0, 0, none⟩ = some (.int .i64 m)) (hT : Tab10 w) (O : Option (List S116)) (hO : D_readPts (D_readWords13 a0) [] = O) (t : Bool) (kt : Nat) (ht : ∀ o, O = some o → impl_ValidCurve.f kt o = some t) (k : Nat) (x : ByteArray) (hx : ∀ o, O = some o → t = true → impl_curveText.f k o = some x) (r1 : List S116) (r2 : Int) (hr : ∀ o, O = some o → (r1, r2) = if t = true then (if x.toList = a0.toList then (o, 0) else ([], 5)) else ([], 5)) (hr0 : O = none → (r1, r2) = ([], 5)) :
    Calls Tryz.prog 70 #[.string a0] w fun e w' => ∃ v0_ : Value, e = .returned (.tuple #[v0_, .int .i64 r2]) ∧ Kd.R k116 116 w' w.heap.size (fun _ => True) v0_ r1 ∧ Below w.heap.size w w' := by
  have HB := Aside0.mk (Below.refl w.heap.size w)
  have HM := Aside0.mk hm
  have HTB := Aside0.mk hT
  have HTT := Aside0.mk ht
  have HTX := Aside0.mk hx
  have HRR := Aside0.mk hr
  have HR0 := Aside0.mk hr0
  have HOO := Aside0.mk hO
  clear hT ht hx hr hr0 hO
  have HSZ := Aside0.mk hs
  clear hm hs
  go_enter Tryz.func70, Tryz.ntmps70
  go_wp2_with (first | ((with_reducible refine gate_dst (N := 14) rfl ?_); refine Kd.R_lit k116 _ 116 ?hg (N := 14) ?hd (xs := ([] : List S116)) (inner := []) (ok := fun _ => True) (okp := fun _ => True) ?hr ?hp (fun _ hk => hk) trivial (Below.refl _ _) (Nat.le_refl _) (by simp) ?_; (case hd => rfl); (case hg => rfl); (case hr => first | (go_simp; done) | (go_simp; rfl)); (case hp => exact (Reps.none _ _)); intro v12 w7 ho hb hg_ hnew_; have HO := Aside0.mk ho; have HB1 := Aside0.mk (below_step HB.out hb); clear hg_ hnew_ ho hb HB))
  refine (Any.strings_SplitN { Tryz.lays147 with } Tryz.lays147.i9 a0 ⟨#[32]⟩ 13 m _ (by have := HSZ.out; omega) ((HB1.out.cell (World.block_lt_of_cell? _ _ HM.out)).trans HM.out) (by decide) (by omega) (by omega)).mono ?_
  rintro e w' ⟨rfl, rfl⟩
  obtain ⟨L, hL⟩ : ∃ L, L = D_readWords13 a0 := ⟨_, rfl⟩
  have hLL : L.length ≤ min 13 (a0.size + 1) := by
    have := Lib.splitB_length_le (⟨#[32]⟩ : ByteArray) 0 (min 13 (a0.size + 1) - 1) a0
    rw [hL]
    unfold D_readWords13
    omega
  rw [show Lib.splitB ⟨#[32]⟩ 0 (min 13 (a0.size + 1) - 1) a0 = L from hL.symm]
  obtain ⟨cap, hcap⟩ : ∃ cap, cap = min 13 (a0.size + 1) := ⟨_, rfl⟩
  rw [← hcap] at hLL ⊢
  have HC := Aside0.mk (heap_alloc_new w7 (.cells (Lib.cellsOf L cap) (Tryz.lays147_ren.t 9)))
  have HO2 := Aside0.mk (Kd.R_reok (ok := fun k_ => k_ ≠ w7.heap.size) rfl (Kd.R_alloc HO.out (.cells (Lib.cellsOf L cap) (Tryz.lays147_ren.t 9))) (fun k_ e_ => by have := Kd.R_lt HO.out k_ e_; omega))
  have HB2 := Aside0.mk (below_alloc HB1.out (.cells (Lib.cellsOf L cap) (Tryz.lays147_ren.t 9)))
  have HGB := Aside0.mk (below_size HB1.out)
  have HL := Aside0.mk hL
  have HL62 := Aside0.mk (show L.length ≤ 13 by omega)
  clear hL hLL hcap HO HB1
  go_wp2_with fail
  go_loopg [18, 4] L.length (fun kq v18 v4 w' => ∃ (i : Nat) (o : List S116) (W : World), W = w' ∧ v18 = .int .i64 (i : Int) ∧ Aside0 (i + kq = L.length) ∧ Aside0 (D_readPts (L.drop i) o = D_readPts L []) ∧ Aside0 (Kd.R k116 116 W w.heap.size (fun k_ => k_ ≠ w7.heap.size) v4 o) ∧ Aside0 (o.length ≤ i) ∧ Aside0 (W.heap[w7.heap.size]? = some (.cells (Lib.cellsOf L cap) (Tryz.lays147_ren.t 9) (0, 0))) ∧ Aside0 (Below w.heap.size w W))
  case atStart => exact ⟨0, [], _, rfl, rfl, ⟨by omega⟩, ⟨rfl⟩, ⟨HO2.out⟩, ⟨Nat.le_refl _⟩, ⟨HC.out⟩, ⟨HB2.out⟩⟩
  case round =>
    obtain ⟨i, o, W, rfl, rfl, HI, HD, HO, HOL, HCC, HB⟩ := hrel
    cases gk with
    | zero =>
      have hi : i = L.length := by have := HI.out; omega
      have hdec : decide ((i : Int) < (L.length : Int)) = false := decide_eq_false (by omega)
      have ho : O = some o := by
        rw [← HOO.out, ← HL.out, ← HD.out, hi, List.drop_length]
        rfl
      have HTT2 := Aside0.mk (HTT.out o ho)
      have HTX2 := Aside0.mk (HTX.out o ho)
      have HRR2 := Aside0.mk (HRR.out o ho)
      clear HTT HTX HRR ho HR0
      obtain ⟨Ao, co, eo⟩ := Kd.R_slice HO.out
      subst eo
      have hC := (Kd.R_reads' HO.out).2.2
      have hCC := (Kd.R_reads' HO.out).2.1
      go_wp2_with fail
      refine (impl_ValidCurve.calls kt _ _ o t _ hC hCC HTT2.out).mono ?_
      rintro e w2 ⟨rfl, hb⟩
      have HB2 := Aside0.mk (below_step HB.out hb)
      have HO2 := Aside0.mk (Kd.R_below HO.out hb)
      clear hC hCC hb
      cases t with
      | false =>
        obtain ⟨rfl, rfl⟩ := Prod.mk.inj (HRR2.out.trans (if_neg (by simp)))
        go_wp2_with fail
        go_ret2
        exact ⟨_, rfl, Kd.R_nil _ _ _ _ _, HB2.out⟩
      | true =>
        have hx := HTX2.out rfl
        have hC := (Kd.R_reads' HO2.out).2.2
        have hCC := (Kd.R_reads' HO2.out).2.1
        go_wp2_with fail
        refine (impl_curveText.calls k _ _ o x _ hC hCC hx (HTB.out.below HB2.out)).mono ?_
        rintro e w3 ⟨rfl, hb⟩
        have HB3 := Aside0.mk (below_step HB2.out hb)
        have HO3 := Aside0.mk (Kd.R_below HO2.out hb)
        clear hC hCC hb hx
        by_cases hq : x.toList = a0.toList
        · have hrr := HRR2.out
          simp only [if_true, hq, Prod.mk.injEq] at hrr
          obtain ⟨rfl, rfl⟩ := hrr
          go_wp2_with fail
          go_ret2
          exact ⟨_, rfl, Kd.R_mono HO3.out (fun _ _ => trivial), HB3.out⟩
        · have hrr := HRR2.out
          simp only [if_true, hq, if_false, Prod.mk.injEq] at hrr
          obtain ⟨rfl, rfl⟩ := hrr
          have hq1 : (x.toList == a0.toList) = false := beq_eq_false_iff_ne.mpr hq
          have hq2 : (x.toList != a0.toList) = true := bne_iff_ne.mpr hq
          have hq3 : decide (x.toList = a0.toList) = false := decide_eq_false hq
          go_wp2_with fail
          go_ret2
          exact ⟨_, rfl, Kd.R_nil _ _ _ _ _, HB3.out⟩
    | succ k1 =>
      have hi : i < L.length := by have := HI.out; omega
      have hdec : decide ((i : Int) < (L.length : Int)) = true := decide_eq_true (by omega)
      have hcc := readc_cell HCC.out i hi
      obtain ⟨x, hx⟩ : ∃ x, x = L[i]'hi := ⟨_, rfl⟩
      rw [← hx] at hcc
      have HX := Aside0.mk hx
      have HXS : Aside0 (x.size ≤ 1048576) := ⟨by
        have h1 := readc_size ⟨#[32]⟩ (min 13 (a0.size + 1) - 1) a0 x (by rw [hx]; have hmem : ∀ y, y ∈ L → y ∈ Lib.splitB ⟨#[32]⟩ 0 (min 13 (a0.size + 1) - 1) a0 := fun y hy => by { rw [HL.out] at hy; exact hy }; exact hmem _ (List.getElem_mem hi))
        have := HSZ.out
        omega⟩
      have HE := Aside0.mk (show wrap64 ((i : Int) + 1) = ((i + 1 : Nat) : Int) by have := HL62.out; unfold wrap64; omega)
      clear hx
      go_wp2_with fail
      refine (Any.strings_Cut Tryz.lays145 x ⟨#[58]⟩ m _ (by have := HXS.out; omega) ((HB.out.cell (World.block_lt_of_cell? _ _ HM.out)).trans HM.out)).mono ?_
      rintro e w' ⟨rfl, n, rfl⟩
      obtain ⟨cw, hcw⟩ : ∃ cw : ByteArray, cw = ⟨(Lib.cut x.data.toList [58]).1.toArray⟩ := ⟨_, rfl⟩
      obtain ⟨cn, hcn⟩ : ∃ cn : ByteArray, cn = ⟨(Lib.cut x.data.toList [58]).2.1.toArray⟩ := ⟨_, rfl⟩
      rw [show (⟨#[58]⟩ : ByteArray).data.toList = [58] from rfl, ← hcw, ← hcn]
      generalize (Lib.cut x.data.toList [58]).2.2 = cb
      have HW := Aside0.mk hcw
      have HN := Aside0.mk hcn
      have HNS : Aside0 (cn.size ≤ 2097152) := ⟨by rw [hcn]; exact readc_arr _ x (readc_cut _ _).2 HXS.out⟩
      have HWS : Aside0 (cw.size ≤ 2097152) := ⟨by rw [hcw]; exact readc_arr _ x (readc_cut _ _).1 HXS.out⟩
      clear hcw hcn
      go_wp2_with fail
      refine (readc_parse cw HWS.out _ (HTB.out.below (pw_below_drewN HB.out n))).mono ?_
      rintro e w2 ⟨v, ev, rfl, hev, hb⟩
      have HB2 := Aside0.mk (below_step (pw_below_drewN HB.out n) hb)
      have HO2 := Aside0.mk (Kd.R_below (Kd.R_drewN HO.out n) hb)
      have HC2 := Aside0.mk (blk_below (blk_drewN HCC.out n) hb)
      have HEV := Aside0.mk hev
      clear hev hb hcc
      go_wp2_with fail
      refine (readc_parse cn HNS.out _ (HTB.out.below HB2.out)).mono ?_
      rintro e w3 ⟨v2, ev2, rfl, hev2, hb⟩
      have HB3 := Aside0.mk (below_step HB2.out hb)
      have HO3 := Aside0.mk (Kd.R_below HO2.out hb)
      have HC3 := Aside0.mk (blk_below HC2.out hb)
      have HEV2 := Aside0.mk hev2
      clear hev2 hb HB2 HO2 HC2
      have hnone : ∀ x0, L[i]'hi = x0 → D_readPoint x0 = none → O = none := fun x0 e0 h0 => by
        rw [← HOO.out, ← HL.out, ← HD.out, List.drop_eq_getElem_cons hi, e0, D_readPts, h0]
      have HNO := Aside0.mk (hnone x HX.out.symm)
      clear hnone
      rcases HEV.out with ⟨hp1, rfl⟩ | ⟨hp1, te, pe, rfl⟩
      · rcases HEV2.out with ⟨hp2, rfl⟩ | ⟨hp2, te, pe, rfl⟩
        · have HP1 := Aside0.mk hp1
          have HP2 := Aside0.mk hp2
          clear hp1 hp2 HEV HEV2 HNO
          go_wp2_with (first | ((with_reducible refine gate_builtin (b := .append) (xs := #[.tmp 44, .tmp 50]) rfl ?_); at_builtin; refine Kd.R_append k116 (w0 := w) w.heap.size rfl (.tmp 44) (.tmp 50) 23 116 (.agg #[(.int .i16 0), (.int .i16 0)]) 4 rfl Tryz.underlying23 info116 rfl (by decide) (by omega) u4 o (⟨IntKind.i16.wrap v, IntKind.i16.wrap v2⟩ : S116) [.int .i16 (IntKind.i16.wrap v), .int .i16 (IntKind.i16.wrap v2)] (fun k_ => k_ ≠ w7.heap.size) (fun _ => False) rfl (by show Value.slice (some ⟨w3.heap.size, 0, none⟩) 1 1 = _; simp) ?aP (fun _ hk => hk.elim) ?aF ?aO ?aB ?aS ?aL ?_; (case aP => exact k116_mkM _ _ _ (⟨IntKind.i16.wrap v, IntKind.i16.wrap v2⟩ : S116)); (case aB => exact HB3.out); (case aF => exact fun k_ hk_ e_ => by have := blk_lt HC3.out; omega); (case aO => exact HO3.out); (case aS => exact below_size HB3.out); (case aL => have := HOL.out; have := HL62.out; omega); intro v73 w8 ho hb hg hat; have HB8 := Aside0.mk hb; have HO8 := Aside0.mk ho; have HC8 := Aside0.mk (blk_grown HC3.out hg (fun e_ => HO3.out.1 _ e_.symm rfl)); clear ho hb hg hat))
          go_roundg k1
          case measure => omega
          case rel =>
            refine ⟨i + 1, o ++ [(⟨IntKind.i16.wrap v, IntKind.i16.wrap v2⟩ : S116)], _, rfl, by rw [HE.out], ⟨by have := HI.out; omega⟩, ⟨?_⟩, HO8, ⟨by have := HOL.out; simp only [List.length_append, List.length_cons, List.length_nil]; omega⟩, HC8, HB8⟩
            rw [← HD.out, List.drop_eq_getElem_cons hi, ← HX.out, D_readPts, readc_some (a := v) (b := v2) (by rw [← HW.out]; exact HP1.out) (by rw [← HN.out]; exact HP2.out)]
        · obtain ⟨rfl, rfl⟩ := Prod.mk.inj (HR0.out (HNO.out (readc_none2 (by rw [← HN.out]; exact hp2))))
          clear hp1 hp2 HEV HEV2 HNO
          go_wp2_with fail
          go_ret2
          exact ⟨_, rfl, Kd.R_nil _ _ _ _ _, HB3.out⟩
      · obtain ⟨rfl, rfl⟩ := Prod.mk.inj (HR0.out (HNO.out (readc_none1 (by rw [← HW.out]; exact hp1))))
        clear hp1 HEV HEV2 HNO
        go_wp2_with fail
        go_ret2
        exact ⟨_, rfl, Kd.R_nil _ _ _ _ _, HB3.out⟩
def impl_ReadCurve.f (a0 : ByteArray) : Option (List S116 × Int) := if a0.size ≤ 1048576 then (match D_readPts (D_readWords13 a0) [] with | none => some ([], 5) | some o => (impl_ValidCurve.f 100 o).bind fun t => (if t = true then ((impl_curveText.f 100 o).bind fun x => some (if x.toList = a0.toList then (o, 0) else ([], 5))) else some ([], 5))) else none
theorem impl_ReadCurve.calls (a0 : ByteArray) (r1 : List S116) (r2 : Int) (w : World) (h : impl_ReadCurve.f a0 = some (r1, r2)) (hT : Tab10 w) :
    Calls Tryz.prog 70 #[.string a0] w fun e w' => ∃ v0_ : Value, e = .returned (.tuple #[v0_, .int .i64 r2]) ∧ Kd.R k116 116 w' w.heap.size (fun _ => True) v0_ r1 ∧ Below w.heap.size w w' := by
  unfold impl_ReadCurve.f at h
  by_cases hs : a0.size ≤ 1048576
  · rw [if_pos hs] at h
    obtain ⟨m, hm⟩ := hT.len
    cases hO : D_readPts (D_readWords13 a0) [] with
    | none =>
      rw [hO] at h
      exact impl_ReadCurve.walk a0 hs w m hm hT none hO false 0 (fun _ e => by cases e) 0 ⟨#[]⟩ (fun _ e => by cases e) r1 r2 (fun _ e => by cases e) (fun _ => (Option.some.inj h).symm)
    | some o =>
      rw [hO] at h
      simp only [] at h
      obtain ⟨t, ht, h⟩ := Option.bind_eq_some_iff.mp h
      cases t with
      | false =>
        rw [if_neg (by simp)] at h
        exact impl_ReadCurve.walk a0 hs w m hm hT (some o) hO false 100 (fun _ e => by cases e; exact ht) 0 ⟨#[]⟩ (fun _ _ e => by cases e) r1 r2 (fun _ e => by cases e; rw [if_neg (by simp)]; exact (Option.some.inj h).symm) (fun e => by cases e)
      | true =>
        rw [if_pos rfl] at h
        obtain ⟨x, hx, h⟩ := Option.bind_eq_some_iff.mp h
        exact impl_ReadCurve.walk a0 hs w m hm hT (some o) hO true 100 (fun _ e => by cases e; exact ht) 100 x (fun _ e _ => by cases e; exact hx) r1 r2 (fun _ e => by cases e; rw [if_pos rfl]; exact (Option.some.inj h).symm) (fun e => by cases e)
  · rw [if_neg hs] at h; simp at h


end Go.Proofs.YtiehbagnebjadaaGreatDoor.Q
