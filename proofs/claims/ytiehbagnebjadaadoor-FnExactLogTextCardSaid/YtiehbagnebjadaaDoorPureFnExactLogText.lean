/- The plain law of FnExactLogText: the printed function of the law answers true for all arguments within their kinds' bounds. No condition besides. -/
import Derived.Test.YtiehbagnebjadaaDoorQx10
namespace Go.Proofs.YtiehbagnebjadaaDoor.Pure
open Go.RowKit Go.Proofs.YtiehbagnebjadaaDoor.Q Go.Proofs.YtiehbagnebjadaaDoorW.PrintWords Go.Proofs.YtiehbagnebjadaaDoorW.PrintLast Go.Proofs.YtiehbagnebjadaaDoorW.PrintMore
set_option linter.unusedVariables false
set_option linter.unusedSimpArgs false
def D_i16s (l : List S64) : Prop := ∀ x ∈ l, (-32768 ≤ x.f0 ∧ x.f0 ≤ 32767) ∧ -32768 ≤ x.f1 ∧ x.f1 ≤ 32767

def D_point (x : S66) : S64 := ⟨x.f0, x.f1⟩

theorem L_map16 (l : List S66) (h : ∀ x ∈ l, -32768 ≤ x.f0 ∧ x.f0 ≤ 32767 ∧ -32768 ≤ x.f1 ∧ x.f1 ≤ 32767) : D_i16s (l.map D_point) := by
  intro x hx
  simp only [List.mem_map] at hx
  obtain ⟨y, hy, rfl⟩ := hx
  have := h y hy
  unfold D_point
  dsimp only
  omega

def D_i8s (l : List S69) : Prop := ∀ x ∈ l, -128 ≤ x.f1 ∧ x.f1 ≤ 127

def D_step (x : S71) : S69 := ⟨x.f0, x.f1⟩

theorem L_map8 (l : List S71) (h : ∀ x ∈ l, 0 ≤ x.f0 ∧ x.f0 ≤ 18446744073709551615 ∧ -128 ≤ x.f1 ∧ x.f1 ≤ 127) : D_i8s (l.map D_step) := by
  intro x hx
  simp only [List.mem_map] at hx
  obtain ⟨y, hy, rfl⟩ := hx
  have := h y hy
  unfold D_step
  dsimp only
  omega

def D_u64s (l : List S69) : Prop := ∀ s ∈ l, 0 ≤ s.f0 ∧ s.f0 < 18446744073709551616

theorem L_w {x : Int} (h : -9223372036854775808 ≤ x ∧ x ≤ 9223372036854775807) : wrap64 x = x := by unfold wrap64; omega

theorem L_szCurve (l : List S66) (a : Int) (ha : 0 ≤ a ∧ a ≤ 1048576) (h : l.length * 4 ≤ 140737488351232) : laws_szCurve.f l a = some (if a < (l.length : Int) then (-1 : Int) else a - (l.length : Int)) := by
  unfold laws_szCurve.f; rw [L_w (by omega)]
  by_cases h : a < (l.length : Int)
  · rw [if_pos (by omega), if_pos h]
  · rw [if_neg (by omega), if_neg h]

theorem L_szStepsA (l : List S71) (a : Int) (ha : 0 ≤ a ∧ a ≤ 1048576) (h : l.length * 16 ≤ 140737488351232) : laws_szStepS.f l a = some (if a < (l.length : Int) then (-1 : Int) else a - (l.length : Int)) := by
  unfold laws_szStepS.f; rw [L_w (by omega)]
  by_cases h : a < (l.length : Int)
  · rw [if_pos (by omega), if_pos h]
  · rw [if_neg (by omega), if_neg h]

theorem L_rdLP {l : List S66} {i : Int} (h0 : 0 ≤ i) (h : i < l.length) : ∃ hi : i.toNat < l.length, rd_T66 l i = l[i.toNat]'hi :=
  ⟨by omega, by unfold rd_T66; rw [List.getD_eq_getElem?_getD, List.getElem?_eq_getElem (by omega)]; rfl⟩

theorem L_toCurveLoop (l : List S66) (hn : l.length ≤ 1048576) (d : Nat) : ∀ (k : Nat) (out : List S64) (i : Int), out.length = l.length → 0 ≤ i → i + d = l.length → d < k → out.take i.toNat = (l.map D_point).take i.toNat → laws_toCurve.l0 k l out i = some (l.map D_point) := by
  induction d with
  | zero =>
    intro k out i ho h0 hd hk ht
    obtain ⟨k, rfl⟩ : ∃ m, k = m + 1 := ⟨k - 1, by omega⟩
    simp only [laws_toCurve.l0]; rw [if_neg (by omega)]
    rw [List.take_of_length_le (by omega), List.take_of_length_le (by simp; omega)] at ht
    rw [ht]
  | succ d ih =>
    intro k out i ho h0 hd hk ht
    obtain ⟨k, rfl⟩ : ∃ m, k = m + 1 := ⟨k - 1, by omega⟩
    obtain ⟨hi, e⟩ := L_rdLP (l := l) (i := i) h0 (by omega)
    simp only [laws_toCurve.l0, laws_toPoint.f, Option.bind_some]; rw [if_pos (by omega), if_pos h0, if_pos (by omega), L_w (x := i + 1) (by omega)]
    refine ih k _ (i + 1) (by simpa using ho) (by omega) (by omega) (by omega) ?_
    rw [show (i + 1).toNat = i.toNat + 1 by omega, List.take_succ_eq_append_getElem (by simp; omega), List.take_succ_eq_append_getElem (by simpa using hi), List.getElem_set_self, List.take_set_of_le (by omega), ht, List.getElem_map, e]
    rfl

theorem L_toCurve (l : List S66) (hn : l.length ≤ 1048576) {k : Nat} (hk : l.length < k) : laws_toCurve.f k l = some (l.map D_point) := by
  unfold laws_toCurve.f
  rw [if_pos (by omega), if_pos (by omega)]
  exact L_toCurveLoop l hn l.length k _ 0 (by simp) (by omega) (by omega) hk (by simp)

theorem L_rdL {l : List S71} {i : Int} (h0 : 0 ≤ i) (h : i < l.length) : ∃ hi : i.toNat < l.length, rd_T71 l i = l[i.toNat]'hi :=
  ⟨by omega, by unfold rd_T71; rw [List.getD_eq_getElem?_getD, List.getElem?_eq_getElem (by omega)]; rfl⟩

theorem L_toStepsLoop (l : List S71) (hn : l.length ≤ 1048576) (d : Nat) : ∀ (k : Nat) (out : List S69) (i : Int), out.length = l.length → 0 ≤ i → i + d = l.length → d < k → out.take i.toNat = (l.map D_step).take i.toNat → laws_toStepS.l0 k l out i = some (l.map D_step) := by
  induction d with
  | zero =>
    intro k out i ho h0 hd hk ht
    obtain ⟨k, rfl⟩ : ∃ m, k = m + 1 := ⟨k - 1, by omega⟩
    simp only [laws_toStepS.l0]; rw [if_neg (by omega)]
    rw [List.take_of_length_le (by omega), List.take_of_length_le (by simp; omega)] at ht
    rw [ht]
  | succ d ih =>
    intro k out i ho h0 hd hk ht
    obtain ⟨k, rfl⟩ : ∃ m, k = m + 1 := ⟨k - 1, by omega⟩
    obtain ⟨hi, e⟩ := L_rdL (l := l) (i := i) h0 (by omega)
    simp only [laws_toStepS.l0, laws_toStep.f, Option.bind_some]; rw [if_pos (by omega), if_pos h0, if_pos (by omega), L_w (x := i + 1) (by omega)]
    refine ih k _ (i + 1) (by simpa using ho) (by omega) (by omega) (by omega) ?_
    rw [show (i + 1).toNat = i.toNat + 1 by omega, List.take_succ_eq_append_getElem (by simp; omega), List.take_succ_eq_append_getElem (by simpa using hi), List.getElem_set_self, List.take_set_of_le (by omega), ht, List.getElem_map, e]
    rfl

theorem L_toSteps (l : List S71) (hn : l.length ≤ 1048576) {k : Nat} (hk : l.length < k) : laws_toStepS.f k l = some (l.map D_step) := by
  unfold laws_toStepS.f
  rw [if_pos (by omega), if_pos (by omega)]
  exact L_toStepsLoop l hn l.length k _ 0 (by simp) (by omega) (by omega) hk (by simp)

def D_px (l : List S64) (i : Int) : Int := (rd_T64 l i).f0

def D_py (l : List S64) (i : Int) : Int := (rd_T64 l i).f1

def D_shapeFrom (l : List S64) : Nat → Int → Bool
  | 0, _ => decide ((l.length : Int) > 0)
  | d + 1, i => if (-200 ≤ D_px l i ∧ D_px l i ≤ 200) ∧ 0 ≤ D_py l i ∧ D_py l i ≤ 400 then (if i > 0 then (if D_px l i ≤ D_px l (i - 1) then false else (if D_py l i < D_py l (i - 1) then false else D_shapeFrom l d (i + 1))) else D_shapeFrom l d (i + 1)) else false

def D_shape (l : List S64) : Bool := D_shapeFrom l l.length 0

def D_curve (l : List S64) : Bool := D_shape l && decide ((l.length : Int) ≤ 12)

theorem L_rdP {l : List S64} {i : Int} (h0 : 0 ≤ i) (h : i < l.length) : ∃ hi : i.toNat < l.length, rd_T64 l i = l[i.toNat]'hi :=
  ⟨by omega, by unfold rd_T64; rw [List.getD_eq_getElem?_getD, List.getElem?_eq_getElem (by omega)]; rfl⟩

theorem L_p16 {l : List S64} (h : D_i16s l) {i : Int} (h0 : 0 ≤ i) (h1 : i < l.length) : (-32768 ≤ D_px l i ∧ D_px l i ≤ 32767) ∧ -32768 ≤ D_py l i ∧ D_py l i ≤ 32767 := by
  obtain ⟨hi, e⟩ := L_rdP (l := l) (i := i) h0 h1
  unfold D_px D_py
  rw [e]
  exact h _ (List.getElem_mem hi)

theorem L_sd {p q : Prop} [Decidable p] [Decidable q] (h : p ↔ q) : some (decide p) = some (decide q) := by rw [decide_eq_decide.mpr h]

theorem L_sf {q : Prop} [Decidable q] (h : ¬ q) : some false = some (decide q) := by rw [decide_eq_false h]

theorem L_in (a b c : Int) : spec_l00In.f a b c = some (decide (b ≤ a ∧ a ≤ c)) := by
  unfold spec_l00In.f
  split
  · exact L_sd (by omega)
  · exact L_sf (by omega)

theorem L_specDensity (a : Int) : spec_l02Density.f a = some (decide (0 ≤ a ∧ a ≤ 400)) := by unfold spec_l02Density.f; rw [L_in]; rfl

theorem L_specPoint {x y : Int} (hx : -32768 ≤ x ∧ x ≤ 32767) (hy : -32768 ≤ y ∧ y ≤ 32767) : spec_l02Point.f x y = some (decide ((-200 ≤ x ∧ x ≤ 200) ∧ 0 ≤ y ∧ y ≤ 400)) := by
  unfold spec_l02Point.f spec_l02Place.f
  rw [L_w (x := x) (by omega), L_w (x := y) (by omega), L_in, L_specDensity]
  simp only [Option.bind_some, decide_eq_true_eq]
  split
  · exact L_sd (by omega)
  · exact L_sf (by omega)

theorem L_specShapeLoop (l : List S64) (h16 : D_i16s l) (hn : l.length ≤ 140737488351232) (d : Nat) : ∀ (k : Nat) (i : Int), 0 ≤ i → i + d = l.length → d < k → spec_l02Shape.l0 k l i = some (D_shapeFrom l d i) := by
  induction d with
  | zero =>
    intro k i h0 hd hk
    obtain ⟨k, rfl⟩ : ∃ m, k = m + 1 := ⟨k - 1, by omega⟩
    simp only [spec_l02Shape.l0, D_shapeFrom]; rw [if_neg (by omega)]
  | succ d ih =>
    intro k i h0 hd hk
    obtain ⟨k, rfl⟩ : ∃ m, k = m + 1 := ⟨k - 1, by omega⟩
    have hp := L_p16 h16 h0 (show i < l.length by omega)
    have ih' := ih k (i + 1) (by omega) (by omega) (by omega)
    simp only [spec_l02Shape.l0, D_shapeFrom]
    rw [if_pos (by omega), if_pos h0, L_w (x := i + 1) (by omega), L_w (x := i - 1) (by omega)]
    change (spec_l02Point.f (D_px l i) (D_py l i)).bind _ = _
    rw [L_specPoint hp.1 hp.2]
    simp only [Option.bind_some, decide_eq_true_eq]
    by_cases h1 : (-200 ≤ D_px l i ∧ D_px l i ≤ 200) ∧ 0 ≤ D_py l i ∧ D_py l i ≤ 400
    · rw [if_pos h1, if_pos h1]
      by_cases h2 : i > 0
      · rw [if_pos h2, if_pos h2, if_pos (by omega), if_pos (by omega)]
        change (if D_px l i ≤ D_px l (i - 1) then _ else (if D_py l i < D_py l (i - 1) then _ else _)) = _
        by_cases h3 : D_px l i ≤ D_px l (i - 1)
        · rw [if_pos h3, if_pos h3]
        · rw [if_neg h3, if_neg h3]
          by_cases h4 : D_py l i < D_py l (i - 1)
          · rw [if_pos h4, if_pos h4]
          · rw [if_neg h4, if_neg h4, ih']
      · rw [if_neg h2, if_neg h2, ih']
    · rw [if_neg h1, if_neg h1]

theorem L_specCurve (l : List S64) (h16 : D_i16s l) (hn : l.length ≤ 140737488351232) {k : Nat} (hk : l.length < k) : spec_l02Ok.f k l = some (D_curve l) := by
  unfold spec_l02Ok.f spec_l02Shape.f D_curve
  rw [L_specShapeLoop l h16 hn l.length k 0 (by omega) (by omega) hk]
  simp only [Option.bind_some]
  show _ = some (D_shape l && _)
  unfold D_shape
  split
  · rename_i h; rw [h]; rfl
  · rename_i h; rw [Bool.eq_false_iff.mpr h]; rfl

theorem L_within (a b c : Int) : impl_within.f a b c = some (decide (b ≤ a ∧ a ≤ c)) := by
  unfold impl_within.f
  split
  · exact L_sd (by omega)
  · exact L_sf (by omega)

theorem L_isPlace (x : Int) : impl_isPlace.f x = some (decide (-200 ≤ x ∧ x ≤ 200)) := by unfold impl_isPlace.f; rw [L_within]; rfl

theorem L_isDensity (a : Int) : impl_isDensity.f a = some (decide (0 ≤ a ∧ a ≤ 400)) := by unfold impl_isDensity.f; rw [L_within]; rfl

theorem L_implPoint {x y : Int} (hx : -32768 ≤ x ∧ x ≤ 32767) (hy : -32768 ≤ y ∧ y ≤ 32767) : impl_isPoint.f x y = some (decide ((-200 ≤ x ∧ x ≤ 200) ∧ 0 ≤ y ∧ y ≤ 400)) := by
  unfold impl_isPoint.f
  rw [L_w (x := x) (by omega), L_w (x := y) (by omega), L_isPlace, L_isDensity]
  simp only [Option.bind_some, decide_eq_true_eq]
  split
  · exact L_sd (by omega)
  · exact L_sf (by omega)

theorem L_implShapeLoop (l : List S64) (h16 : D_i16s l) (hn : l.length ≤ 140737488351232) (d : Nat) : ∀ (k : Nat) (i : Int), 0 ≤ i → i + d = l.length → d < k → impl_isCurve.l0 k l l (l.length : Int) i = some (D_shapeFrom l d i) := by
  induction d with
  | zero =>
    intro k i h0 hd hk
    obtain ⟨k, rfl⟩ : ∃ m, k = m + 1 := ⟨k - 1, by omega⟩
    simp only [impl_isCurve.l0, D_shapeFrom]; rw [if_neg (by omega)]
  | succ d ih =>
    intro k i h0 hd hk
    obtain ⟨k, rfl⟩ : ∃ m, k = m + 1 := ⟨k - 1, by omega⟩
    have hp := L_p16 h16 h0 (show i < l.length by omega)
    have ih' := ih k (i + 1) (by omega) (by omega) (by omega)
    simp only [impl_isCurve.l0, D_shapeFrom]
    rw [if_pos (by omega), if_pos h0, if_pos (by omega), L_w (x := i + 1) (by omega), L_w (x := i - 1) (by omega)]
    change (impl_isPoint.f (D_px l i) (D_py l i)).bind _ = _
    rw [L_implPoint hp.1 hp.2]
    simp only [Option.bind_some, decide_eq_true_eq]
    by_cases h1 : (-200 ≤ D_px l i ∧ D_px l i ≤ 200) ∧ 0 ≤ D_py l i ∧ D_py l i ≤ 400
    · rw [if_pos h1, if_pos h1]
      by_cases h2 : i > 0
      · rw [if_pos h2, if_pos h2, if_pos (by omega), if_pos (by omega)]
        change (if D_px l (i - 1) ≥ D_px l i then _ else (if D_py l (i - 1) > D_py l i then _ else _)) = _
        by_cases h3 : D_px l i ≤ D_px l (i - 1)
        · rw [if_pos (by omega), if_pos h3]
        · rw [if_neg (by omega), if_neg h3]
          by_cases h4 : D_py l i < D_py l (i - 1)
          · rw [if_pos (by omega), if_pos h4]
          · rw [if_neg (by omega), if_neg h4, ih']
      · rw [if_neg h2, if_neg h2, ih']
    · rw [if_neg h1, if_neg h1]

theorem L_implCurve (l : List S64) (h16 : D_i16s l) (hn : l.length ≤ 140737488351232) {k : Nat} (hk : l.length < k) : impl_ValidCurve.f k l = some (D_curve l) := by
  unfold impl_ValidCurve.f impl_isCurve.f D_curve
  rw [L_implShapeLoop l h16 hn l.length k 0 (by omega) (by omega) hk]
  simp only [Option.bind_some]
  show _ = some (D_shape l && _)
  unfold D_shape
  split
  · rename_i h; rw [h]; rfl
  · rename_i h; rw [Bool.eq_false_iff.mpr h]; rfl

def D_steps (l : List S69) : Prop := (∀ x ∈ l, 0 ≤ x.f1 ∧ x.f1 ≤ 36) ∧ l.length ≤ 30
instance (l : List S69) : Decidable (D_steps l) := by unfold D_steps; infer_instance

theorem L_rdS {l : List S69} {i : Int} (h0 : 0 ≤ i) (h : i < l.length) : ∃ hi : i.toNat < l.length, rd_T69 l i = l[i.toNat]'hi :=
  ⟨by omega, by unfold rd_T69; rw [List.getD_eq_getElem?_getD, List.getElem?_eq_getElem (by omega)]; rfl⟩

theorem L_specThirds (a : Int) : spec_l03Thirds.f a = some (decide (0 ≤ a ∧ a ≤ 36)) := by
  unfold spec_l03Thirds.f; rw [L_in]; rfl

theorem L_stepsOkLoop (l : List S69) (h8 : D_i8s l) (hn : l.length ≤ 140737488351232) (d : Nat) : ∀ (k : Nat) (i : Int), 0 ≤ i → i + d = l.length → d < k →
    spec_l03Ok.l0 k l i = some (decide ((∀ x ∈ l.drop i.toNat, 0 ≤ x.f1 ∧ x.f1 ≤ 36) ∧ l.length ≤ 30)) := by
  induction d with
  | zero =>
    intro k i h0 hd hk
    obtain ⟨k, rfl⟩ : ∃ m, k = m + 1 := ⟨k - 1, by omega⟩
    simp only [spec_l03Ok.l0]
    rw [if_neg (by omega), List.drop_eq_nil_of_le (by omega)]
    exact L_sd (by simp; omega)
  | succ d ih =>
    intro k i h0 hd hk
    obtain ⟨k, rfl⟩ : ∃ m, k = m + 1 := ⟨k - 1, by omega⟩
    obtain ⟨hi, e⟩ := L_rdS (l := l) (i := i) h0 (by omega)
    have h1 := h8 _ (List.getElem_mem hi)
    rw [← e] at h1
    simp only [spec_l03Ok.l0, L_specThirds, Option.bind_some, decide_eq_true_eq]
    rw [if_pos (by omega), if_pos h0, L_w (x := i + 1) (by omega), L_w (x := (rd_T69 l i).f1) (by omega), List.drop_eq_getElem_cons hi, ← e]
    split
    · rename_i hx
      rw [ih k (i + 1) (by omega) (by omega) (by omega), show (i + 1).toNat = i.toNat + 1 by omega]
      exact L_sd (by simp [hx])
    · rename_i hx
      exact L_sf (fun h => hx (h.1 _ (by simp)))

theorem L_stepsOk (l : List S69) (h8 : D_i8s l) (hn : l.length ≤ 140737488351232) {k : Nat} (hk : l.length < k) : spec_l03Ok.f k l = some (decide (D_steps l)) := by
  unfold spec_l03Ok.f
  rw [L_stepsOkLoop l h8 hn l.length k 0 (by omega) (by omega) hk]
  exact L_sd (by unfold D_steps; simp)

theorem L_idxAnyOn {α : Type} (q : α → Option Bool) (p : α → Bool) : ∀ (l : List α) (i : Int), (∀ x ∈ l, q x = some (p x)) → 0 ≤ i → ∃ r, D_idx q l i = some r ∧ (l.any p = false → r = -1) ∧ (l.any p = true → 0 ≤ r)
  | [], i, _, hi => ⟨-1, rfl, fun _ => rfl, fun h => by simp at h⟩
  | x :: t, i, h, hi => by
    simp only [D_idx, h x (by simp), Option.bind_some]
    by_cases hx : p x = true
    · rw [if_pos hx]
      exact ⟨i, rfl, fun h => by simp [hx] at h, fun _ => hi⟩
    · rw [if_neg hx]
      obtain ⟨r, h1, h2, h3⟩ := L_idxAnyOn q p t (i + 1) (fun y hy => h y (by simp [hy])) (by omega)
      refine ⟨r, h1, fun h => h2 (by simpa [hx] using h), fun h => h3 (by simpa [hx] using h)⟩

theorem L_areThirds (a : Int) : impl_areThirds.f a = some (decide (0 ≤ a ∧ a ≤ 36)) := by
  unfold impl_areThirds.f; rw [L_within]; rfl

theorem L_anyIff {α : Type} (P : α → Prop) [DecidablePred P] (l : List α) (r : Int) (h2 : l.any (fun x => !decide (P x)) = false → r = -1) (h3 : l.any (fun x => !decide (P x)) = true → 0 ≤ r) [Decidable (∀ x ∈ l, P x)] :
    decide (0 ≤ r) = !decide (∀ x ∈ l, P x) := by
  by_cases h : ∀ x ∈ l, P x
  · have e : l.any (fun x => !decide (P x)) = false := by rw [List.any_eq_false]; intro x hx; simp [h x hx]
    rw [h2 e, decide_eq_true h]
    rfl
  · have e : l.any (fun x => !decide (P x)) = true := by
      rw [List.any_eq_true]
      obtain ⟨x, hx⟩ := Classical.not_forall.1 h
      obtain ⟨hx, hh⟩ := Classical.not_imp.1 hx
      exact ⟨x, hx, by simp only [Bool.not_eq_true', decide_eq_false_iff_not]; exact hh⟩
    rw [decide_eq_false h, decide_eq_true (h3 e)]
    rfl


theorem L_implSteps (l : List S69) (h8 : D_i8s l) : impl_ValidSteps.f l = some (decide (D_steps l)) := by
  unfold impl_ValidSteps.f impl_Step_70.f impl_Step_85.f
  rw [if_pos rfl]
  obtain ⟨r, h1, h2, h3⟩ := L_idxAnyOn (fun x : S69 => impl_ValidSteps_1.f x.f0 x.f1) (fun x => !decide (0 ≤ x.f1 ∧ x.f1 ≤ 36)) l 0 (fun x hx => by
    have := h8 x hx
    unfold impl_ValidSteps_1.f
    rw [L_w (x := x.f1) (by omega), L_areThirds]; rfl) (by omega)
  rw [h1]
  simp only [Option.bind_some]
  rw [L_anyIff (fun x : S69 => 0 ≤ x.f1 ∧ x.f1 ≤ 36) l r h2 h3]
  unfold D_steps
  by_cases hl : l.length ≤ 30
  · first
    | rw [if_pos (by omega)]
      simp only [Bool.not_not]
      exact L_sd ⟨fun h => ⟨h, hl⟩, fun h => h.1⟩
    | simp [hl]
  · first
    | rw [if_neg (by omega)]
      exact L_sf (fun h => hl h.2)
    | simp [hl]

theorem L_shapeFacts (l : List S64) (d : Nat) : ∀ i : Int, 0 ≤ i → i + d = l.length → D_shapeFrom l d i = true →
    0 < l.length ∧ ∀ j : Int, i ≤ j → j < l.length → ((-200 ≤ D_px l j ∧ D_px l j ≤ 200) ∧ 0 ≤ D_py l j ∧ D_py l j ≤ 400) ∧ (j > 0 → D_px l (j - 1) < D_px l j ∧ D_py l (j - 1) ≤ D_py l j) := by
  induction d with
  | zero =>
    intro i h0 hd h
    simp only [D_shapeFrom, decide_eq_true_eq] at h
    exact ⟨by omega, fun j h1 h2 => by omega⟩
  | succ d ih =>
    intro i h0 hd h
    simp only [D_shapeFrom] at h
    by_cases h1 : (-200 ≤ D_px l i ∧ D_px l i ≤ 200) ∧ 0 ≤ D_py l i ∧ D_py l i ≤ 400
    · rw [if_pos h1] at h
      have key : D_shapeFrom l d (i + 1) = true ∧ (i > 0 → D_px l (i - 1) < D_px l i ∧ D_py l (i - 1) ≤ D_py l i) := by
        by_cases h2 : i > 0
        · rw [if_pos h2] at h
          by_cases h3 : D_px l i ≤ D_px l (i - 1)
          · rw [if_pos h3] at h; cases h
          · rw [if_neg h3] at h
            by_cases h4 : D_py l i < D_py l (i - 1)
            · rw [if_pos h4] at h; cases h
            · rw [if_neg h4] at h
              exact ⟨h, fun _ => by omega⟩
        · rw [if_neg h2] at h
          exact ⟨h, fun h => absurd h h2⟩
      obtain ⟨a, b⟩ := ih (i + 1) (by omega) (by omega) key.1
      refine ⟨a, fun j hj hj2 => ?_⟩
      by_cases e : j = i
      · subst e; exact ⟨h1, key.2⟩
      · exact b j (by omega) hj2
    · rw [if_neg h1] at h; cases h

theorem L_curveFacts {l : List S64} (h : D_curve l = true) : (1 ≤ l.length ∧ l.length ≤ 12) ∧ ∀ j : Int, 0 ≤ j → j < l.length → ((-200 ≤ D_px l j ∧ D_px l j ≤ 200) ∧ 0 ≤ D_py l j ∧ D_py l j ≤ 400) ∧ (j > 0 → D_px l (j - 1) < D_px l j ∧ D_py l (j - 1) ≤ D_py l j) := by
  unfold D_curve D_shape at h
  simp only [Bool.and_eq_true, decide_eq_true_eq] at h
  obtain ⟨a, b⟩ := L_shapeFacts l l.length 0 (by omega) (by omega) h.1
  exact ⟨by omega, b⟩

def D_okPt (l : List S64) : Prop := ∀ p ∈ l, (-200 ≤ p.f0 ∧ p.f0 ≤ 200) ∧ 0 ≤ p.f1 ∧ p.f1 ≤ 400

def D_ptL (p : S64) : List UInt8 := Lib.itoa p.f0 ++ [58] ++ Lib.itoa p.f1

theorem L_strOne {n : Nat} (h : n < 256) : strOfNums [(n : Int)] = ⟨#[UInt8.ofNat n]⟩ := by
  simp [strOfNums]

theorem L_push (l : List UInt8) (x : UInt8) : (⟨l.toArray⟩ : ByteArray) ++ (⟨#[x]⟩ : ByteArray) = ⟨(l ++ [x]).toArray⟩ := by
  apply ByteArray.ext
  simp [ByteArray.data_append]

theorem L_specDecimal : ∀ (d k n : Nat), n < 10 ^ d → d ≤ 18 → d ≤ k → 1 ≤ k → spec_Decimal.f k (n : Int) = some ⟨(Lib.decDigits n).toArray⟩ ∧ (Lib.decDigits n).length ≤ d + 1
  | d, 0, n, _, _, _, h => absurd h (by omega)
  | d, k + 1, n, h, hd, hk, _ => by
    rw [spec_Decimal.f]
    by_cases h10 : n < 10
    · rw [if_pos (by omega), Lib.decDigits, dif_pos h10, Int.tmod_eq_emod_of_nonneg (by omega), show (n : Int) % 10 = n by omega, L_w (x := 48 + (n : Int)) (by omega), show (48 + (n : Int)) % 256 = ((48 + n : Nat) : Int) by omega, L_strOne (by omega)]
      exact ⟨rfl, by simp⟩
    · obtain ⟨d, rfl⟩ : ∃ e, d = e + 1 := ⟨d - 1, by cases d with | zero => simp at h; omega | succ d => omega⟩
      have hp : 10 ^ (d + 1) = 10 ^ d * 10 := Nat.pow_succ ..
      have hle : 10 ^ (d + 1) ≤ 10 ^ 18 := Nat.pow_le_pow_right (by omega) hd
      have h1 : n / 10 < 10 ^ d := by omega
      have hd1 : 1 ≤ d := by
        cases d with
        | zero => simp at h; omega
        | succ d => omega
      obtain ⟨e, hl⟩ := L_specDecimal d k (n / 10) h1 (by omega) (by omega) (by omega)
      have hq : (n : Int).tdiv 10 = ((n / 10 : Nat) : Int) := by rw [Int.tdiv_eq_ediv_of_nonneg (by omega)]; omega
      have hr : (48 + ((n : Int) % 10)) % 256 = ((48 + n % 10 : Nat) : Int) := by omega
      have e2 : Lib.decDigits n = Lib.decDigits (n / 10) ++ [UInt8.ofNat (48 + n % 10)] := by rw [Lib.decDigits, dif_neg h10]
      rw [if_neg (by omega), hq, L_w (x := ((n / 10 : Nat) : Int)) (by omega), e, Int.tmod_eq_emod_of_nonneg (by omega), L_w (x := 48 + (n : Int) % 10) (by omega), hr]
      simp only [Option.bind_some]
      rw [L_strOne (n := 48 + n % 10) (by omega), if_pos (by show (Lib.decDigits (n / 10)).length + 1 ≤ _; omega), L_push, ← e2]
      refine ⟨rfl, ?_⟩
      rw [e2, List.length_append]
      simp only [List.length_cons, List.length_nil]
      omega

theorem L_decOf {n : Int} (h0 : 0 ≤ n) (h : n < 1000000) {k : Nat} (hk : 6 ≤ k) : spec_Decimal.f k n = some ⟨(Lib.decDigits n.toNat).toArray⟩ ∧ (⟨(Lib.decDigits n.toNat).toArray⟩ : ByteArray).size ≤ 7 := by
  have := L_specDecimal 6 k n.toNat (by omega) (by omega) hk (by omega)
  rw [show ((n.toNat : Nat) : Int) = n by omega] at this
  exact this

theorem L_mk (a b : List UInt8) : (⟨a.toArray⟩ : ByteArray) ++ (⟨b.toArray⟩ : ByteArray) = ⟨(a ++ b).toArray⟩ := by
  apply ByteArray.ext
  simp [ByteArray.data_append]

theorem L_mkSize (a : List UInt8) : (⟨a.toArray⟩ : ByteArray).size = a.length := by simp [ByteArray.size]

theorem L_itoaPos {n : Int} (h : 0 ≤ n) : Lib.itoa n = Lib.decDigits n.toNat := by unfold Lib.itoa; rw [if_neg (by omega)]

theorem L_decItoa {n : Int} (h0 : 0 ≤ n) (h : n < 1000000) {k : Nat} (hk : 6 ≤ k) : spec_Decimal.f k n = some ⟨(Lib.itoa n).toArray⟩ ∧ (Lib.itoa n).length ≤ 8 := by
  have := L_decOf h0 h hk
  rw [L_itoaPos h0]
  refine ⟨this.1, ?_⟩
  have h2 := this.2
  rw [L_mkSize] at h2
  omega

theorem L_signed {n : Int} (h0 : -1000000 < n) (h : n < 1000000) {k : Nat} (hk : 6 ≤ k) : spec_l02Signed.f k n = some ⟨(Lib.itoa n).toArray⟩ ∧ (Lib.itoa n).length ≤ 8 := by
  unfold spec_l02Signed.f
  by_cases hn : n < 0
  · obtain ⟨e, hs⟩ := L_decOf (n := -n) (by omega) (by omega) hk
    have e2 : Lib.itoa n = [45] ++ Lib.decDigits (-n).toNat := by
      unfold Lib.itoa
      rw [if_pos hn, show n.natAbs = (-n).toNat by omega]
      rfl
    rw [if_pos hn, L_w (x := -n) (by omega), e]
    simp only [Option.bind_some]
    rw [if_pos (by omega), e2, show (⟨#[45]⟩ : ByteArray) = ⟨([45] : List UInt8).toArray⟩ from rfl, L_mk]
    rw [L_mkSize] at hs
    exact ⟨rfl, by simp only [List.length_append, List.length_cons, List.length_nil]; omega⟩
  · rw [if_neg hn]
    obtain ⟨e, hs⟩ := L_decItoa (n := n) (by omega) h hk
    rw [e]
    exact ⟨rfl, hs⟩

theorem L_ptLen {p : S64} (h : (-200 ≤ p.f0 ∧ p.f0 ≤ 200) ∧ 0 ≤ p.f1 ∧ p.f1 ≤ 400) : (D_ptL p).length ≤ 17 := by
  have a := (L_signed (n := p.f0) (by omega) (by omega) (k := 6) (by omega)).2
  have b := (L_decItoa (n := p.f1) (by omega) (by omega) (k := 6) (by omega)).2
  unfold D_ptL
  simp only [List.length_append, List.length_cons, List.length_nil]
  omega

theorem L_joinTailLen (r : List S64) (h : D_okPt r) : (Lib.joinTail [32] (r.map D_ptL)).length ≤ 18 * r.length := by
  induction r with
  | nil => simp [Lib.joinTail]
  | cons p r ih =>
    have a := L_ptLen (h p (by simp))
    have b := ih (fun q hq => h q (by simp [hq]))
    simp only [Lib.joinTail, List.map_cons, List.flatten_cons, List.length_append, List.length_cons, List.length_nil] at b ⊢
    omega

theorem L_curveTextLoop (l : List S64) (hl : D_okPt l) (hn : l.length ≤ 12) (d : Nat) : ∀ (k : Nat) (a : List UInt8) (i : Int), 1 ≤ i → i + d = l.length → d + 6 < k → (a.length : Int) ≤ 20 * i →
    spec_l02Text.l0 k l ⟨a.toArray⟩ i = some ⟨(a ++ Lib.joinTail [32] ((l.drop i.toNat).map D_ptL)).toArray⟩ := by
  induction d with
  | zero =>
    intro k a i h0 hd hk ha
    obtain ⟨k, rfl⟩ : ∃ m, k = m + 1 := ⟨k - 1, by omega⟩
    rw [spec_l02Text.l0, if_neg (by omega), List.drop_eq_nil_of_le (by omega)]
    simp [Lib.joinTail]
  | succ d ih =>
    intro k a i h0 hd hk ha
    obtain ⟨k, rfl⟩ : ∃ m, k = m + 1 := ⟨k - 1, by omega⟩
    obtain ⟨hi, e⟩ := L_rdP (l := l) (i := i) (by omega) (by omega)
    have h1 := hl _ (List.getElem_mem hi)
    rw [← e] at h1
    have hpl := L_ptLen h1
    obtain ⟨e1, s1⟩ := L_signed (n := (rd_T64 l i).f0) (by omega) (by omega) (k := k) (by omega)
    obtain ⟨e2, s2⟩ := L_decItoa (n := (rd_T64 l i).f1) (by omega) (by omega) (k := k) (by omega)
    rw [spec_l02Text.l0, if_pos (by omega), if_pos (by omega), L_mkSize, if_pos (by omega), if_pos (by omega), L_w (x := (rd_T64 l i).f0) (by omega), L_w (x := (rd_T64 l i).f1) (by omega), e1]
    simp only [Option.bind_some]
    rw [L_mkSize, if_pos (by omega), e2]
    simp only [Option.bind_some]
    rw [show (⟨#[58]⟩ : ByteArray) = ⟨([58] : List UInt8).toArray⟩ from rfl, show (⟨#[32]⟩ : ByteArray) = ⟨([32] : List UInt8).toArray⟩ from rfl, L_mk, L_mkSize, L_mkSize, if_pos (by simp only [List.length_append, List.length_cons, List.length_nil]; omega), L_mk, L_mk, L_mkSize, L_mkSize,
      show Lib.itoa (rd_T64 l i).f0 ++ [58] ++ Lib.itoa (rd_T64 l i).f1 = D_ptL (rd_T64 l i) from rfl, if_pos (by simp only [List.length_append, List.length_cons, List.length_nil]; omega), L_mk, L_w (x := i + 1) (by omega)]
    rw [ih k _ (i + 1) (by omega) (by omega) (by omega) (by simp only [List.length_append, List.length_cons, List.length_nil]; omega), List.drop_eq_getElem_cons hi, ← e, show (i + 1).toNat = i.toNat + 1 by omega]
    simp [Lib.joinTail]

theorem L_specCurveText (l : List S64) (hl : D_okPt l) (hn : l.length ≤ 12) (h1 : 1 ≤ l.length) {k : Nat} (hk : l.length + 8 ≤ k) :
    spec_l02Text.f k l = some ⟨(Lib.join (l.map D_ptL) [32]).toArray⟩ ∧ (Lib.join (l.map D_ptL) [32]).length ≤ 300 := by
  obtain ⟨p, r, rfl⟩ : ∃ p r, l = p :: r := by cases l with | nil => simp at h1 | cons p r => exact ⟨p, r, rfl⟩
  have hp := hl p (by simp)
  have hpl := L_ptLen hp
  have hr := L_joinTailLen r (fun q hq => hl q (by simp [hq]))
  simp only [List.length_cons] at hn hk
  rw [List.map_cons, Lib.join_cons]
  refine ⟨?_, by rw [List.length_append]; omega⟩
  unfold spec_l02Text.f
  obtain ⟨k, rfl⟩ : ∃ m, k = m + 1 := ⟨k - 1, by omega⟩
  have e0 : rd_T64 (p :: r) 0 = p := rfl
  obtain ⟨e1, s1⟩ := L_signed (n := p.f0) (by omega) (by omega) (k := k) (by omega)
  obtain ⟨e2, s2⟩ := L_decItoa (n := p.f1) (by omega) (by omega) (k := k) (by omega)
  rw [spec_l02Text.l0, if_pos (by simp only [List.length_cons]; omega), if_neg (by omega), if_pos (by omega), e0, L_w (x := p.f0) (by omega), L_w (x := p.f1) (by omega), e1]
  simp only [Option.bind_some]
  rw [L_mkSize, if_pos (by omega), e2]
  simp only [Option.bind_some]
  rw [show (⟨#[58]⟩ : ByteArray) = ⟨([58] : List UInt8).toArray⟩ from rfl, show (⟨#[]⟩ : ByteArray) = ⟨([] : List UInt8).toArray⟩ from rfl, L_mk, L_mkSize, L_mkSize, if_pos (by simp only [List.length_append, List.length_cons, List.length_nil]; omega), L_mk, L_mkSize, L_mkSize,
    show Lib.itoa p.f0 ++ [58] ++ Lib.itoa p.f1 = D_ptL p from rfl, if_pos (by simp only [List.length_nil]; omega), L_mk, L_w (x := 0 + 1) (by omega)]
  rw [L_curveTextLoop (p :: r) hl (by simp only [List.length_cons]; omega) r.length k ([] ++ D_ptL p) (0 + 1) (by omega) (by simp only [List.length_cons]; omega) (by omega) (by simp only [List.nil_append]; omega)]
  simp

theorem L_okPt {l : List S64} (h : D_curve l = true) : D_okPt l := by
  intro p hp
  obtain ⟨j, hj, e⟩ := List.getElem_of_mem hp
  have := (L_curveFacts h).2 (j : Int) (by omega) (by omega)
  obtain ⟨hi, e2⟩ := L_rdP (l := l) (i := (j : Int)) (by omega) (by omega)
  have e3 : rd_T64 l (j : Int) = p := by rw [e2, ← e]; simp
  unfold D_px D_py at this
  rw [e3] at this
  exact this.1

def D_mkPt (p : S64) : ByteArray := ⟨(D_ptL p).toArray⟩

theorem L_implItoa {n : Int} (h0 : -1000000 < n) (h : n < 1000000) : impl_decimal.f n = some ⟨(Lib.itoa n).toArray⟩ := by
  unfold impl_decimal.f
  rw [if_pos (by omega), if_pos (by omega)]

theorem L_implCurveLoop (l : List S64) (hl : D_okPt l) (hn : l.length ≤ 12) (d : Nat) : ∀ (k : Nat) (W : List ByteArray) (i : Int), 0 ≤ i → i + d = l.length → d < k → (W.length : Int) = i →
    (Lib.join ((W ++ (l.drop i.toNat).map D_mkPt).map (·.data.toList)) [32]).length ≤ 1000 →
    impl_curveText.l0 k W l (l.length : Int) i = some ⟨(Lib.join ((W ++ (l.drop i.toNat).map D_mkPt).map (·.data.toList)) [32]).toArray⟩ := by
  induction d with
  | zero =>
    intro k W i h0 hd hk hW hj
    obtain ⟨k, rfl⟩ : ∃ m, k = m + 1 := ⟨k - 1, by omega⟩
    rw [List.drop_eq_nil_of_le (by omega), List.map_nil, List.append_nil] at hj ⊢
    rw [impl_curveText.l0, if_neg (by omega)]
    unfold strings_Join.f
    rw [show (⟨#[32]⟩ : ByteArray).data.toList = [32] from rfl, if_pos (by omega), if_pos (by omega)]
    rfl
  | succ d ih =>
    intro k W i h0 hd hk hW hj
    obtain ⟨k, rfl⟩ : ∃ m, k = m + 1 := ⟨k - 1, by omega⟩
    obtain ⟨hi, e⟩ := L_rdP (l := l) (i := i) (by omega) (by omega)
    have h1 := hl _ (List.getElem_mem hi)
    rw [← e] at h1
    have hpl := L_ptLen h1
    have s1 := (L_signed (n := (rd_T64 l i).f0) (by omega) (by omega) (k := 6) (by omega)).2
    have s2 := (L_decItoa (n := (rd_T64 l i).f1) (by omega) (by omega) (k := 6) (by omega)).2
    have ew : W ++ (l.drop i.toNat).map D_mkPt = (W ++ [D_mkPt (rd_T64 l i)]) ++ (l.drop (i + 1).toNat).map D_mkPt := by
      rw [List.drop_eq_getElem_cons hi, ← e, show (i + 1).toNat = i.toNat + 1 by omega]
      simp
    rw [ew] at hj ⊢
    rw [impl_curveText.l0, if_pos (by omega), if_pos h0, if_pos (by omega), L_w (x := (rd_T64 l i).f0) (by omega), L_w (x := (rd_T64 l i).f1) (by omega), L_implItoa (n := (rd_T64 l i).f0) (by omega) (by omega), L_implItoa (n := (rd_T64 l i).f1) (by omega) (by omega)]
    simp only [Option.bind_some]
    rw [L_mkSize, if_pos (by omega), show (⟨#[58]⟩ : ByteArray) = ⟨([58] : List UInt8).toArray⟩ from rfl, L_mk, L_mkSize, L_mkSize, if_pos (by simp only [List.length_append, List.length_cons, List.length_nil]; omega), if_pos (by omega), L_mk, L_w (x := i + 1) (by omega)]
    exact ih k _ (i + 1) (by omega) (by omega) (by omega) (by rw [List.length_append]; simp only [List.length_cons, List.length_nil]; omega) hj

theorem L_implCurveText (l : List S64) (hl : D_okPt l) (hn : l.length ≤ 12) (h1 : 1 ≤ l.length) {k : Nat} (hk : l.length + 8 ≤ k) : impl_curveText.f k l = some ⟨(Lib.join (l.map D_ptL) [32]).toArray⟩ := by
  have hb := (L_specCurveText l hl hn h1 (k := l.length + 8) (by omega)).2
  have e : (([] : List ByteArray) ++ (l.drop (0 : Int).toNat).map D_mkPt).map (·.data.toList) = l.map D_ptL := by
    simp [D_mkPt, Function.comp_def]
  unfold impl_curveText.f
  rw [L_implCurveLoop l hl hn l.length k [] 0 (by omega) (by omega) (by omega) rfl (by rw [e]; omega), e]

/-- a fixed number of digits to the base 16 -/
def D_hexFix : Nat → Int → List Int → List Int
  | 0, _, l => l
  | d + 1, u, l => D_hexFix d (u / 16) (D_hexDig (u % 16) :: l)

def D_stL (s : S69) : List UInt8 := (D_hexFix 16 s.f0 []).map (fun n => UInt8.ofNat n.toNat) ++ [32] ++ Lib.itoa s.f1 ++ [10]

theorem L_hexFixLen : ∀ (d : Nat) (u : Int) (l : List Int), (D_hexFix d u l).length = d + l.length
  | 0, _, _ => by simp [D_hexFix]
  | d + 1, u, l => by simp only [D_hexFix]; rw [L_hexFixLen d]; simp only [List.length_cons]; omega

theorem L_stLen {s : S69} (h : 0 ≤ s.f1 ∧ s.f1 ≤ 36) : (D_stL s).length ≤ 30 := by
  have b := (L_decItoa (n := s.f1) (by omega) (by omega) (k := 6) (by omega)).2
  unfold D_stL
  simp only [List.length_append, List.length_cons, List.length_nil, List.length_map, L_hexFixLen]
  omega

/-- the digits from place n on downward -/
def D_hexDown (u : Int) : Nat → List Int
  | 0 => []
  | n + 1 => D_hexDig (u / 16 ^ n % 16) :: D_hexDown u n

theorem L_btHex : ∀ d : Nat, d < 16 → bt (⟨#[48, 49, 50, 51, 52, 53, 54, 55, 56, 57, 97, 98, 99, 100, 101, 102]⟩ : ByteArray) (d : Int) = D_hexDig (d : Int) := by
  intro d hd
  obtain rfl | rfl | rfl | rfl | rfl | rfl | rfl | rfl | rfl | rfl | rfl | rfl | rfl | rfl | rfl | rfl : d = 0 ∨ d = 1 ∨ d = 2 ∨ d = 3 ∨ d = 4 ∨ d = 5 ∨ d = 6 ∨ d = 7 ∨ d = 8 ∨ d = 9 ∨ d = 10 ∨ d = 11 ∨ d = 12 ∨ d = 13 ∨ d = 14 ∨ d = 15 := by omega
  all_goals decide +kernel

theorem L_shr16 (m : Int) (n : Nat) (hn : n ≤ 15) : shr .u64 m (IntKind.u64.wrap (4 * (n : Int))) = m / 16 ^ n := by
  unfold shr
  rw [IntKind.wrap_u64, show (4 * (n : Int) % 18446744073709551616).toNat = 4 * n by omega, show min (4 * n) IntKind.u64.bits = 4 * n by show min (4 * n) 64 = _; omega, Int.pow_mul]
  rfl

theorem L_specHexLoop (m : Int) (h0 : 0 ≤ m) (h1 : m < 18446744073709551616) : ∀ (n k : Nat) (acc : List Int), n ≤ 16 → n < k → acc.length ≤ 16 - n →
    spec_l03Hex.l0 k m (⟨#[48, 49, 50, 51, 52, 53, 54, 55, 56, 57, 97, 98, 99, 100, 101, 102]⟩ : ByteArray) acc (4 * (n : Int) - 4) = some (strOfNums (acc ++ D_hexDown m n))
  | 0, k, acc, hn, hk, ha => by
    obtain ⟨k, rfl⟩ : ∃ m, k = m + 1 := ⟨k - 1, by omega⟩
    rw [spec_l03Hex.l0, if_neg (by omega)]
    simp [D_hexDown]
  | n + 1, k, acc, hn, hk, ha => by
    obtain ⟨k, rfl⟩ : ∃ m, k = m + 1 := ⟨k - 1, by omega⟩
    have e5 : 4 * ((n + 1 : Nat) : Int) - 4 = 4 * (n : Int) := by omega
    have hp : (0 : Int) < 16 ^ n := Int.pow_pos (by omega)
    have hq0 : 0 ≤ m / 16 ^ n := Int.ediv_nonneg h0 (by omega)
    have hq1 : m / 16 ^ n < 18446744073709551616 := Int.lt_of_le_of_lt (Int.ediv_le_self _ h0) h1
    have hand := hex_and (m / 16 ^ n) hq0 hq1
    have hsz : (⟨#[48, 49, 50, 51, 52, 53, 54, 55, 56, 57, 97, 98, 99, 100, 101, 102]⟩ : ByteArray).size = 16 := rfl
    have hb := L_btHex (m / 16 ^ n % 16).toNat (by omega)
    rw [show (((m / 16 ^ n % 16).toNat : Nat) : Int) = m / 16 ^ n % 16 by omega] at hb
    rw [e5, spec_l03Hex.l0, if_pos (by omega), if_pos (by rw [IntKind.wrap_u64]; omega), L_shr16 m n (by omega), hand, hsz, if_pos (by omega), if_pos (by omega), if_pos (by omega), hb, L_w (x := 4 * (n : Int) - 4) (by omega),
      L_specHexLoop m h0 h1 n k _ (by omega) (by omega) (by rw [List.length_append]; simp only [List.length_cons, List.length_nil]; omega)]
    simp [D_hexDown]

theorem L_hexDown : ∀ (n : Nat) (u : Int) (l : List Int), 0 ≤ u → D_hexFix n u l = D_hexDown u n ++ l
  | 0, _, _, _ => rfl
  | n + 1, u, l, h0 => by
    have key : ∀ m : Nat, D_hexDown (u / 16) m ++ [D_hexDig (u % 16)] = D_hexDown u (m + 1) := by
      intro m
      induction m with
      | zero => simp [D_hexDown]
      | succ m ih =>
        rw [show D_hexDown u (m + 1 + 1) = D_hexDig (u / 16 ^ (m + 1) % 16) :: D_hexDown u (m + 1) from rfl, ← ih]
        rw [show D_hexDown (u / 16) (m + 1) = D_hexDig (u / 16 / 16 ^ m % 16) :: D_hexDown (u / 16) m from rfl]
        rw [show u / 16 / 16 ^ m = u / 16 ^ (m + 1) by rw [Int.ediv_ediv_of_nonneg (by omega), Int.pow_succ, Int.mul_comm]]
        rfl
    simp only [D_hexFix]
    rw [L_hexDown n _ _ (by omega), ← key n]
    simp

theorem L_specHex {m : Int} (h0 : 0 ≤ m) (h1 : m < 18446744073709551616) {k : Nat} (hk : 17 ≤ k) : spec_l03Hex.f k m = some (strOfNums (D_hexFix 16 m [])) := by
  unfold spec_l03Hex.f
  have := L_specHexLoop m h0 h1 16 k [] (by omega) (by omega) (by simp)
  rw [show (4 * ((16 : Nat) : Int) - 4) = 60 by omega] at this
  rw [this, L_hexDown 16 m [] h0]
  simp

theorem L_strMk (xs : List Int) : strOfNums xs = ⟨(xs.map fun n => UInt8.ofNat n.toNat).toArray⟩ := rfl

theorem L_specLogLoop (l : List S69) (hl : D_steps l) (hu : D_u64s l) (d : Nat) : ∀ (k : Nat) (a : List UInt8) (i : Int), 0 ≤ i → i + d = l.length → d + 20 < k → (a.length : Int) ≤ 400 + 40 * i →
    spec_l03Text.l0 k l ⟨a.toArray⟩ i = some ⟨(a ++ ((l.drop i.toNat).map D_stL).flatten).toArray⟩ := by
  have hn := hl.2
  induction d with
  | zero =>
    intro k a i h0 hd hk ha
    obtain ⟨k, rfl⟩ : ∃ m, k = m + 1 := ⟨k - 1, by omega⟩
    rw [spec_l03Text.l0, if_neg (by omega), List.drop_eq_nil_of_le (by omega)]
    simp
  | succ d ih =>
    intro k a i h0 hd hk ha
    obtain ⟨k, rfl⟩ : ∃ m, k = m + 1 := ⟨k - 1, by omega⟩
    obtain ⟨hi, e⟩ := L_rdS (l := l) (i := i) (by omega) (by omega)
    have h1 := hl.1 _ (List.getElem_mem hi)
    have h2 := hu _ (List.getElem_mem hi)
    rw [← e] at h1 h2
    have hpl := L_stLen h1
    have hsz : (strOfNums (D_hexFix 16 (rd_T69 l i).f0 [])).size = 16 := by rw [strOfNums_size, L_hexFixLen]; rfl
    obtain ⟨e2, s2⟩ := L_decItoa (n := (rd_T69 l i).f1) (by omega) (by omega) (k := k) (by omega)
    rw [spec_l03Text.l0, if_pos (by omega), if_pos (by omega), L_w (x := (rd_T69 l i).f1) (by omega), L_specHex h2.1 h2.2 (by omega)]
    simp only [Option.bind_some]
    rw [hsz, if_pos (by omega), e2]
    simp only [Option.bind_some]
    have hs2 : (⟨(Lib.itoa (rd_T69 l i).f1).toArray⟩ : ByteArray).size ≤ 8 := by rw [L_mkSize]; exact s2
    have sp : (⟨#[32]⟩ : ByteArray).size = 1 := rfl
    have nl : (⟨#[10]⟩ : ByteArray).size = 1 := rfl
    have hst : ((strOfNums (D_hexFix 16 (rd_T69 l i).f0 []) ++ (⟨#[32]⟩ : ByteArray)) ++ (⟨(Lib.itoa (rd_T69 l i).f1).toArray⟩ : ByteArray)) ++ (⟨#[10]⟩ : ByteArray) = ⟨(D_stL (rd_T69 l i)).toArray⟩ := by
      rw [L_strMk, show (⟨#[32]⟩ : ByteArray) = ⟨([32] : List UInt8).toArray⟩ from rfl, show (⟨#[10]⟩ : ByteArray) = ⟨([10] : List UInt8).toArray⟩ from rfl, L_mk, L_mk, L_mk]
      rfl
    rw [if_pos (by rw [ByteArray.size_append]; omega), if_pos (by rw [ByteArray.size_append, ByteArray.size_append]; omega), hst, L_mkSize, L_mkSize, if_pos (by omega), L_mk, L_w (x := i + 1) (by omega)]
    rw [ih k _ (i + 1) (by omega) (by omega) (by omega) (by rw [List.length_append]; omega), List.drop_eq_getElem_cons hi, ← e, show (i + 1).toNat = i.toNat + 1 by omega]
    simp

theorem L_hexFix0 : ∀ (d : Nat) (l : List Int), D_hexFix d 0 l = List.replicate d 48 ++ l
  | 0, _ => rfl
  | d + 1, l => by
    simp only [D_hexFix]
    rw [show (0 : Int) / 16 = 0 from rfl, show D_hexDig (0 % 16) = 48 from rfl, L_hexFix0 d, List.replicate_succ']
    simp

theorem L_hexPad : ∀ (d : Nat) (u : Int) (l : List Int), 0 ≤ u → u < 16 ^ (d + 1) → (D_hexOn d u l).length ≤ d + 1 + l.length ∧ D_hexFix (d + 1) u l = List.replicate (d + 1 + l.length - (D_hexOn d u l).length) 48 ++ D_hexOn d u l
  | 0, u, l, h0, h1 => by
    simp only [D_hexFix, D_hexOn]
    rw [show u % 16 = u by omega]
    simp only [List.length_cons]
    refine ⟨by omega, ?_⟩
    rw [show 0 + 1 + l.length - (l.length + 1) = 0 by omega]
    rfl
  | d + 1, u, l, h0, h1 => by
    have hpw : (16 : Int) ^ (d + 1 + 1) = 16 ^ (d + 1) * 16 := Int.pow_succ ..
    simp only [D_hexOn]
    by_cases h : 16 ≤ u
    · rw [if_pos h]
      obtain ⟨a, b⟩ := L_hexPad d (u / 16) (D_hexDig (u % 16) :: l) (by omega) (by omega)
      simp only [List.length_cons] at a b
      refine ⟨by omega, ?_⟩
      have e : D_hexFix (d + 1 + 1) u l = D_hexFix (d + 1) (u / 16) (D_hexDig (u % 16) :: l) := rfl
      rw [e, b, show d + 1 + (l.length + 1) = d + 1 + 1 + l.length by omega]
    · rw [if_neg h]
      have e : D_hexFix (d + 1 + 1) u l = D_hexFix (d + 1) (u / 16) (D_hexDig (u % 16) :: l) := rfl
      rw [e, show u / 16 = 0 by omega, show u % 16 = u by omega, L_hexFix0]
      simp only [List.length_cons]
      refine ⟨by omega, ?_⟩
      rw [show d + 1 + 1 + l.length - (l.length + 1) = d + 1 by omega]

theorem L_rep (n : Nat) : Lib.repeatL [48] n = (List.replicate n (48 : Int)).map fun z => UInt8.ofNat z.toNat := by
  induction n with
  | zero => rfl
  | succ n ih => rw [Lib.repeatL, ih, List.replicate_succ]; rfl

theorem L_implHex {m : Int} (h0 : 0 ≤ m) (h1 : m < 18446744073709551616) : ∃ x y : ByteArray, strconv_FormatUint.f m 16 = some x ∧ strings_Repeat.f (⟨#[48]⟩ : ByteArray) (wrap64 (16 - (x.size : Int))) = some y ∧ y ++ x = strOfNums (D_hexFix 16 m []) ∧ x.size ≤ 16 ∧ y.size ≤ 16 := by
  obtain ⟨hl, he⟩ := L_hexPad 15 m [] h0 h1
  simp only [List.length_nil, Nat.add_zero, Nat.reduceAdd] at hl he
  have hx : (strOfNums (D_hex m)).size = (D_hexOn 15 m []).length := strOfNums_size _
  refine ⟨strOfNums (D_hex m), ⟨(Lib.repeatL [48] (16 - (D_hexOn 15 m []).length)).toArray⟩, ?_, ?_, ?_, by rw [hx]; exact hl, ?_⟩
  · unfold strconv_FormatUint.f
    rw [if_pos rfl, if_pos h0, if_pos h1]
  · unfold strings_Repeat.f
    rw [hx, L_w (x := 16 - ((D_hexOn 15 m []).length : Int)) (by omega), if_pos (by omega), if_pos (by omega), show (16 - ((D_hexOn 15 m []).length : Int)).toNat = 16 - (D_hexOn 15 m []).length by omega, show (⟨#[48]⟩ : ByteArray).size = 1 from rfl, if_pos (by omega)]
  · rw [L_strMk, L_strMk, L_mk, he, L_rep, ← List.map_append]
    rfl
  · rw [L_mkSize, Lib.repeatL_length]
    simp only [List.length_cons, List.length_nil]
    omega

theorem L_implLogLoop (l : List S69) (hl : D_steps l) (hu : D_u64s l) (d : Nat) : ∀ (k : Nat) (a : List UInt8) (i : Int), 0 ≤ i → i + d = l.length → d < k → (a.length : Int) ≤ 400 + 40 * i →
    impl_logText.l0 k ⟨a.toArray⟩ l (l.length : Int) i = some ⟨(a ++ ((l.drop i.toNat).map D_stL).flatten).toArray⟩ := by
  have hn := hl.2
  induction d with
  | zero =>
    intro k a i h0 hd hk ha
    obtain ⟨k, rfl⟩ : ∃ m, k = m + 1 := ⟨k - 1, by omega⟩
    rw [impl_logText.l0, if_neg (by omega), List.drop_eq_nil_of_le (by omega)]
    simp
  | succ d ih =>
    intro k a i h0 hd hk ha
    obtain ⟨k, rfl⟩ : ∃ m, k = m + 1 := ⟨k - 1, by omega⟩
    obtain ⟨hi, e⟩ := L_rdS (l := l) (i := i) (by omega) (by omega)
    have h1 := hl.1 _ (List.getElem_mem hi)
    have h2 := hu _ (List.getElem_mem hi)
    rw [← e] at h1 h2
    have hpl := L_stLen h1
    have hsz : (strOfNums (D_hexFix 16 (rd_T69 l i).f0 [])).size = 16 := by rw [strOfNums_size, L_hexFixLen]; rfl
    have s2 := (L_decItoa (n := (rd_T69 l i).f1) (by omega) (by omega) (k := 6) (by omega)).2
    obtain ⟨x, y, ex, ey, exy, hx, hy⟩ := L_implHex h2.1 h2.2
    rw [impl_logText.l0, if_pos (by omega), if_pos (by omega), if_pos (by omega), L_w (x := (rd_T69 l i).f1) (by omega), ex]
    simp only [Option.bind_some]
    rw [ey]
    simp only [Option.bind_some]
    rw [if_pos (by omega), exy, hsz, if_pos (by omega), L_implItoa (n := (rd_T69 l i).f1) (by omega) (by omega)]
    simp only [Option.bind_some]
    have hs2 : (⟨(Lib.itoa (rd_T69 l i).f1).toArray⟩ : ByteArray).size ≤ 8 := by rw [L_mkSize]; exact s2
    have sp : (⟨#[32]⟩ : ByteArray).size = 1 := rfl
    have nl : (⟨#[10]⟩ : ByteArray).size = 1 := rfl
    have hst : ((strOfNums (D_hexFix 16 (rd_T69 l i).f0 []) ++ (⟨#[32]⟩ : ByteArray)) ++ (⟨(Lib.itoa (rd_T69 l i).f1).toArray⟩ : ByteArray)) ++ (⟨#[10]⟩ : ByteArray) = ⟨(D_stL (rd_T69 l i)).toArray⟩ := by
      rw [L_strMk, show (⟨#[32]⟩ : ByteArray) = ⟨([32] : List UInt8).toArray⟩ from rfl, show (⟨#[10]⟩ : ByteArray) = ⟨([10] : List UInt8).toArray⟩ from rfl, L_mk, L_mk, L_mk]
      rfl
    rw [if_pos (by rw [ByteArray.size_append]; omega), if_pos (by rw [ByteArray.size_append, ByteArray.size_append]; omega), hst, L_mkSize, L_mkSize, if_pos (by omega), L_mk, L_w (x := i + 1) (by omega)]
    rw [ih k _ (i + 1) (by omega) (by omega) (by omega) (by rw [List.length_append]; omega), List.drop_eq_getElem_cons hi, ← e, show (i + 1).toNat = i.toNat + 1 by omega]
    simp

theorem L_logTexts (l : List S64) (h16 : D_i16s l) (hn : l.length ≤ 1048576) (s : List S69) (h8 : D_i8s s) (hu : D_u64s s) (hs : s.length ≤ 1048576) {k : Nat} (hk : l.length + s.length + 100 < k) :
    ∃ r, spec_LogText.f k l s = some r ∧ impl_LogText.f k l s = some r := by
  unfold spec_LogText.f impl_LogText.f spec_l03Text.f impl_logText.f
  rw [L_specCurve l h16 (by omega) (by omega), L_implCurve l h16 (by omega) (by omega), L_stepsOk s h8 (by omega) (by omega), L_implSteps s h8]
  simp only [Option.bind_some, decide_eq_true_eq]
  by_cases h : D_curve l = true
  · rw [if_pos h, if_pos h]
    by_cases h2 : D_steps s
    · rw [if_pos h2, if_pos h2]
      have hf := (L_curveFacts h).1
      obtain ⟨e, hb⟩ := L_specCurveText l (L_okPt h) hf.2 hf.1 (k := k) (by omega)
      rw [e, L_implCurveText l (L_okPt h) hf.2 hf.1 (k := k) (by omega)]
      simp only [Option.bind_some]
      rw [L_mkSize, if_pos (by omega), if_pos (by omega), show (⟨#[10]⟩ : ByteArray) = ⟨([10] : List UInt8).toArray⟩ from rfl, L_mk,
        L_specLogLoop s h2 hu s.length k _ 0 (by omega) (by omega) (by omega) (by simp only [List.length_append, List.length_cons, List.length_nil]; omega),
        L_implLogLoop s h2 hu s.length k _ 0 (by omega) (by omega) (by omega) (by simp only [List.length_append, List.length_cons, List.length_nil]; omega)]
      exact ⟨_, rfl, rfl⟩
    · rw [if_neg h2, if_neg h2]
      exact ⟨_, rfl, rfl⟩
  · rw [if_neg h, if_neg h]
    exact ⟨_, rfl, rfl⟩

theorem L_eqCurve (l : List S64) (hn : l.length ≤ 140737488351232) {k : Nat} (hk : l.length < k) : laws_eqCurve.f k l l = some true := by
  have H : ∀ (d : Nat) (k : Nat) (i : Int), 0 ≤ i → i + d = l.length → d < k → laws_eqCurve.l0 k l l i = some true := by
    intro d
    induction d with
    | zero =>
      intro k i h0 hd hk
      obtain ⟨k, rfl⟩ : ∃ m, k = m + 1 := ⟨k - 1, by omega⟩
      simp only [laws_eqCurve.l0]; rw [if_neg (by omega)]
    | succ d ih =>
      intro k i h0 hd hk
      obtain ⟨k, rfl⟩ : ∃ m, k = m + 1 := ⟨k - 1, by omega⟩
      simp only [laws_eqCurve.l0, laws_eqPoint.f, if_true, Option.bind_some]; rw [if_pos (by omega), if_pos h0, if_pos (by omega), L_w (x := i + 1) (by omega)]
      exact ih k (i + 1) (by omega) (by omega) (by omega)
  unfold laws_eqCurve.f; rw [if_pos rfl]; exact H l.length k 0 (by omega) (by omega) hk

theorem L_eqSteps (l : List S69) (hn : l.length ≤ 140737488351232) {k : Nat} (hk : l.length < k) : laws_eqStepS.f k l l = some true := by
  have H : ∀ (d : Nat) (k : Nat) (i : Int), 0 ≤ i → i + d = l.length → d < k → laws_eqStepS.l0 k l l i = some true := by
    intro d
    induction d with
    | zero =>
      intro k i h0 hd hk
      obtain ⟨k, rfl⟩ : ∃ m, k = m + 1 := ⟨k - 1, by omega⟩
      simp only [laws_eqStepS.l0]; rw [if_neg (by omega)]
    | succ d ih =>
      intro k i h0 hd hk
      obtain ⟨k, rfl⟩ : ∃ m, k = m + 1 := ⟨k - 1, by omega⟩
      simp only [laws_eqStepS.l0, laws_eqStep.f, if_true, Option.bind_some]; rw [if_pos (by omega), if_pos h0, if_pos (by omega), L_w (x := i + 1) (by omega)]
      exact ih k (i + 1) (by omega) (by omega) (by omega)
  unfold laws_eqStepS.f; rw [if_pos rfl]; exact H l.length k 0 (by omega) (by omega) hk

theorem FnExactLogText : ∀ (l0 : List S66) (l1 : List S71), (∀ x ∈ l0, -32768 ≤ x.f0 ∧ x.f0 ≤ 32767 ∧ -32768 ≤ x.f1 ∧ x.f1 ≤ 32767) → l0.length * 4 ≤ 140737488351232 → (∀ x ∈ l1, 0 ≤ x.f0 ∧ x.f0 ≤ 18446744073709551615 ∧ -128 ≤ x.f1 ∧ x.f1 ≤ 127) → l1.length * 16 ≤ 140737488351232 → ∃ k, laws_FnExactLogText.f k l0 l1 = some true := by
  intro l0 l1 hw0 y0 hw1 y1
  have h16 := L_map16 l0 hw0
  have h8 := L_map8 l1 hw1
  have hu : D_u64s (l1.map D_step) := by
    intro s hs
    simp only [List.mem_map] at hs
    obtain ⟨x, hx, rfl⟩ := hs
    have := hw1 x hx
    unfold D_step
    dsimp only
    omega
  refine ⟨l0.length + l1.length + 200, ?_⟩
  unfold laws_FnExactLogText.f
  rw [L_szCurve l0 1048576 (by omega) y0]
  simp only [Option.bind_some]
  by_cases h : 1048576 < (l0.length : Int)
  · rw [if_pos h]; rfl
  · rw [if_neg h, if_neg (by omega), L_szStepsA l1 (1048576 - (l0.length : Int)) (by omega) y1]
    simp only [Option.bind_some]
    by_cases h2 : 1048576 - (l0.length : Int) < (l1.length : Int)
    · rw [if_pos h2]; rfl
    · rw [if_neg h2, if_neg (by omega), L_toCurve l0 (by omega) (by omega), L_toSteps l1 (by omega) (by omega)]
      simp only [Option.bind_some]
      obtain ⟨r, e1, e2⟩ := L_logTexts (l0.map D_point) h16 (by simp <;> omega) (l1.map D_step) h8 hu (by simp <;> omega) (k := l0.length + l1.length + 200) (by simp only [List.length_map]; omega)
      rw [e1]
      simp only [Option.bind_some]
      rw [e2]
      simp only [Option.bind_some, if_true]
      rw [L_eqCurve _ (by simp <;> omega) (by simp only [List.length_map]; omega)]
      simp only [Option.bind_some, if_true]
      rw [L_eqSteps _ (by simp <;> omega) (by simp only [List.length_map]; omega)]
      rfl

end Go.Proofs.YtiehbagnebjadaaDoor.Pure
