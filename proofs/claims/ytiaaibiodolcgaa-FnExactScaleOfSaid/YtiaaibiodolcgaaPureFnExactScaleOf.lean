/- The plain law of FnExactScaleOf: the printed function of the law answers true for all arguments within their kinds' bounds. No condition besides. -/
import Derived.Test.YtiaaibiodolcgaaQx36
namespace Go.Proofs.Ytiaaibiodolcgaa.Pure
open Go.RowKit Go.Proofs.Ytiaaibiodolcgaa.Q Go.Proofs.YtiaaibiodolcgaaW.PrintWords Go.Proofs.YtiaaibiodolcgaaW.PrintLast Go.Proofs.YtiaaibiodolcgaaW.PrintMore
set_option linter.unusedVariables false
set_option linter.unusedSimpArgs false
def D_i16s (l : List S101) : Prop := ∀ x ∈ l, (-32768 ≤ x.f0 ∧ x.f0 ≤ 32767) ∧ -32768 ≤ x.f1 ∧ x.f1 ≤ 32767

def D_point (x : S103) : S101 := ⟨x.f0, x.f1⟩

theorem L_map16 (l : List S103) (h : ∀ x ∈ l, -32768 ≤ x.f0 ∧ x.f0 ≤ 32767 ∧ -32768 ≤ x.f1 ∧ x.f1 ≤ 32767) : D_i16s (l.map D_point) := by
  intro x hx
  simp only [List.mem_map] at hx
  obtain ⟨y, hy, rfl⟩ := hx
  have := h y hy
  unfold D_point
  dsimp only
  omega

theorem L_sd {p q : Prop} [Decidable p] [Decidable q] (h : p ↔ q) : some (decide p) = some (decide q) := by rw [decide_eq_decide.mpr h]

theorem L_sf {q : Prop} [Decidable q] (h : ¬ q) : some false = some (decide q) := by rw [decide_eq_false h]

theorem L_in (a b c : Int) : spec_l00In.f a b c = some (decide (b ≤ a ∧ a ≤ c)) := by
  unfold spec_l00In.f
  split
  · exact L_sd (by omega)
  · exact L_sf (by omega)

theorem L_specDensity (a : Int) : spec_l02Density.f a = some (decide (0 ≤ a ∧ a ≤ 400)) := by unfold spec_l02Density.f; rw [L_in]; rfl

theorem L_within (a b c : Int) : impl_within.f a b c = some (decide (b ≤ a ∧ a ≤ c)) := by
  unfold impl_within.f
  split
  · exact L_sd (by omega)
  · exact L_sf (by omega)

theorem L_isDensity (a : Int) : impl_isDensity.f a = some (decide (0 ≤ a ∧ a ≤ 400)) := by unfold impl_isDensity.f; rw [L_within]; rfl

def D_px (l : List S101) (i : Int) : Int := (rd_T101 l i).f0

def D_py (l : List S101) (i : Int) : Int := (rd_T101 l i).f1

def D_shapeFrom (l : List S101) : Nat → Int → Bool
  | 0, _ => decide ((l.length : Int) > 0)
  | d + 1, i => if (-200 ≤ D_px l i ∧ D_px l i ≤ 200) ∧ 0 ≤ D_py l i ∧ D_py l i ≤ 400 then (if i > 0 then (if D_px l i ≤ D_px l (i - 1) then false else (if D_py l i < D_py l (i - 1) then false else D_shapeFrom l d (i + 1))) else D_shapeFrom l d (i + 1)) else false

def D_shape (l : List S101) : Bool := D_shapeFrom l l.length 0

def D_curve (l : List S101) : Bool := D_shape l && decide ((l.length : Int) ≤ 12)

def D_interp (l : List S101) (x i : Int) : Int := D_py l i + (D_py l (i + 1) - D_py l i) * (x - D_px l i) / (D_px l (i + 1) - D_px l i)

def D_atFrom (l : List S101) (x : Int) : Nat → Int → Int
  | 0, _ => 0
  | d + 1, i => if D_px l i ≤ x then D_atFrom l x d (i + 1) else D_interp l x (i - 1)

def D_at (l : List S101) (x : Int) : Int :=
  if x ≤ D_px l 0 then D_py l 0 else (if x ≥ D_px l ((l.length : Int) - 1) then D_py l ((l.length : Int) - 1) else D_atFrom l x (l.length - 1) 1)

def D_placeFrom (l : List S101) (y : Int) : Nat → Int → Int
  | 0, i => i
  | d + 1, i => if D_at l i < y then D_placeFrom l y d (i + 1) else i

def D_place (l : List S101) (y : Int) : Int := D_placeFrom l y 401 (-200)

theorem L_shapeFacts (l : List S101) (d : Nat) : ∀ i : Int, 0 ≤ i → i + d = l.length → D_shapeFrom l d i = true →
    0 < l.length ∧ ∀ j : Int, i ≤ j → j < l.length → ((-200 ≤ D_px l j ∧ D_px l j ≤ 200) ∧ 0 ≤ D_py l j ∧ D_py l j ≤ 400) ∧ (j > 0 → D_px l (j - 1) < D_px l j ∧ D_py l (j - 1) ≤ D_py l j) := by
  induction d with
  | zero =>
    intro i h0 hd h
    simp only [D_shapeFrom, decide_eq_true_eq] at h
    exact ⟨by omega, fun j h1 h2 => by omega⟩
  | succ d ih =>
    intro i h0 hd h
    simp only [D_shapeFrom] at h
    by_cases h1 : (-200 ≤ D_px l i ∧ D_px l i ≤ 200) ∧ 0 ≤ D_py l i ∧ D_py l i ≤ 400
    · rw [if_pos h1] at h
      have key : D_shapeFrom l d (i + 1) = true ∧ (i > 0 → D_px l (i - 1) < D_px l i ∧ D_py l (i - 1) ≤ D_py l i) := by
        by_cases h2 : i > 0
        · rw [if_pos h2] at h
          by_cases h3 : D_px l i ≤ D_px l (i - 1)
          · rw [if_pos h3] at h; cases h
          · rw [if_neg h3] at h
            by_cases h4 : D_py l i < D_py l (i - 1)
            · rw [if_pos h4] at h; cases h
            · rw [if_neg h4] at h
              exact ⟨h, fun _ => by omega⟩
        · rw [if_neg h2] at h
          exact ⟨h, fun h => absurd h h2⟩
      obtain ⟨a, b⟩ := ih (i + 1) (by omega) (by omega) key.1
      refine ⟨a, fun j hj hj2 => ?_⟩
      by_cases e : j = i
      · subst e; exact ⟨h1, key.2⟩
      · exact b j (by omega) hj2
    · rw [if_neg h1] at h; cases h

theorem L_curveFacts {l : List S101} (h : D_curve l = true) : (1 ≤ l.length ∧ l.length ≤ 12) ∧ ∀ j : Int, 0 ≤ j → j < l.length → ((-200 ≤ D_px l j ∧ D_px l j ≤ 200) ∧ 0 ≤ D_py l j ∧ D_py l j ≤ 400) ∧ (j > 0 → D_px l (j - 1) < D_px l j ∧ D_py l (j - 1) ≤ D_py l j) := by
  unfold D_curve D_shape at h
  simp only [Bool.and_eq_true, decide_eq_true_eq] at h
  obtain ⟨a, b⟩ := L_shapeFacts l l.length 0 (by omega) (by omega) h.1
  exact ⟨by omega, b⟩

theorem L_w {x : Int} (h : -9223372036854775808 ≤ x ∧ x ≤ 9223372036854775807) : wrap64 x = x := by unfold wrap64; omega

theorem L_pxF (l : List S101) (i : Int) : (rd_T101 l i).f0 = D_px l i := rfl

theorem L_pyF (l : List S101) (i : Int) : (rd_T101 l i).f1 = D_py l i := rfl

theorem L_mulb {x y X Y : Int} (h : 0 ≤ x) (hx : x ≤ X) (k : 0 ≤ y) (ky : y ≤ Y) : 0 ≤ x * y ∧ x * y ≤ X * Y :=
  ⟨Int.mul_nonneg h k, Int.mul_le_mul hx ky k (Int.le_trans h hx)⟩

theorem L_quot {a b q : Int} (ha : 0 ≤ a) (hb : 0 < b) (h : a ≤ q * b) : 0 ≤ a / b ∧ a / b ≤ q := by
  refine ⟨Int.ediv_nonneg ha (by omega), ?_⟩
  have := Int.ediv_le_ediv hb h
  rwa [Int.mul_ediv_cancel _ (by omega)] at this

theorem L_interpb {y0 y1 x0 x1 x : Int} (hy0 : 0 ≤ y0) (hy : y0 ≤ y1) (hy1 : y1 ≤ 400) (hx : x0 < x1) (h0 : x0 ≤ x) (h1 : x ≤ x1) (hb : -200 ≤ x0 ∧ x1 ≤ 200) :
    (0 ≤ (y1 - y0) * (x - x0) ∧ (y1 - y0) * (x - x0) ≤ 160000) ∧ 0 ≤ (y1 - y0) * (x - x0) / (x1 - x0) ∧ (y1 - y0) * (x - x0) / (x1 - x0) ≤ y1 - y0 := by
  have m1 := L_mulb (x := y1 - y0) (y := x - x0) (X := 400) (Y := 400) (by omega) (by omega) (by omega) (by omega)
  have m2 := L_mulb (x := y1 - y0) (y := x - x0) (X := y1 - y0) (Y := x1 - x0) (by omega) (by omega) (by omega) (by omega)
  exact ⟨by omega, L_quot m1.1 (by omega) m2.2⟩

theorem L_w16 {x : Int} (h : -32768 ≤ x ∧ x ≤ 32767) : IntKind.i16.wrap x = x := by simp [IntKind.wrap, IntKind.bits, IntKind.signed]; omega

theorem L_atLoops {l : List S101} (h : D_curve l = true) {x : Int} (hx : x < D_px l ((l.length : Int) - 1)) (d : Nat) : ∀ (k : Nat) (i : Int), 1 ≤ i → i + d = l.length → d < k → D_px l (i - 1) ≤ x →
    (spec_l02At.l0 k l x (i - 1) = some (D_atFrom l x d i) ∧ impl_Curve_at.l0 k l x i = some (D_atFrom l x d i)) ∧ 0 ≤ D_atFrom l x d i ∧ D_atFrom l x d i ≤ 400 ∧
      ∃ j, i - 1 ≤ j ∧ j + 1 < l.length ∧ D_px l j ≤ x ∧ x < D_px l (j + 1) ∧ D_atFrom l x d i = D_interp l x j := by
  obtain ⟨hl, hf⟩ := L_curveFacts h
  induction d with
  | zero =>
    intro k i h1 hd hk hp
    have : i - 1 = (l.length : Int) - 1 := by omega
    rw [this] at hp
    omega
  | succ d ih =>
    intro k i h1 hd hk hp
    obtain ⟨k, rfl⟩ : ∃ m, k = m + 1 := ⟨k - 1, by omega⟩
    have f0 := hf (i - 1) (by omega) (by omega)
    have f1 := hf i (by omega) (by omega)
    have f2 := f1.2 (by omega)
    have w1 : wrap64 (i - 1 + 1) = i := by rw [L_w (by omega)]; omega
    have w2 : wrap64 (i - 1) = i - 1 := L_w (by omega)
    have w3 : wrap64 (i + 1) = i + 1 := L_w (by omega)
    have wx1 : wrap64 (D_px l i) = D_px l i := L_w (by omega)
    have wy1 : wrap64 (D_py l i) = D_py l i := L_w (by omega)
    have wx0 : wrap64 (D_px l (i - 1)) = D_px l (i - 1) := L_w (by omega)
    have wy0 : wrap64 (D_py l (i - 1)) = D_py l (i - 1) := L_w (by omega)
    simp only [spec_l02At.l0, impl_Curve_at.l0, D_atFrom, L_pxF, L_pyF, w1, w2, w3, wx1, wy1, wx0, wy0]
    have c1 : 0 ≤ i := by omega
    have c2 : i < (l.length : Int) := by omega
    have c3 : 0 ≤ i - 1 := by omega
    have c4 : i - 1 < (l.length : Int) := by omega
    simp only [if_pos c1, if_pos c2, if_pos c3, if_pos c4]
    by_cases hc : D_px l i ≤ x
    · have e : i + 1 - 1 = i := by omega
      obtain ⟨⟨a1, a2⟩, a3, a4, j, b1, b2, b3, b4, b5⟩ := ih k (i + 1) (by omega) (by omega) (by omega) (by rw [e]; exact hc)
      rw [e] at a1
      simp only [if_pos hc]
      exact ⟨⟨a1, a2⟩, a3, a4, j, by omega, b2, b3, b4, b5⟩
    · have hb := L_interpb (y0 := D_py l (i - 1)) (y1 := D_py l i) (x0 := D_px l (i - 1)) (x1 := D_px l i) (x := x) (by omega) (by omega) (by omega) (by omega) hp (by omega) (by omega)
      have e : i - 1 + 1 = i := by omega
      have v1 : IntKind.i16.wrap (D_px l i - D_px l (i - 1)) = D_px l i - D_px l (i - 1) := L_w16 (by omega)
      have v2 : IntKind.i16.wrap (D_py l i - D_py l (i - 1)) = D_py l i - D_py l (i - 1) := L_w16 (by omega)
      have u1 : wrap64 (D_px l i - D_px l (i - 1)) = D_px l i - D_px l (i - 1) := L_w (by omega)
      have u2 : wrap64 (D_py l i - D_py l (i - 1)) = D_py l i - D_py l (i - 1) := L_w (by omega)
      have u3 : wrap64 (x - D_px l (i - 1)) = x - D_px l (i - 1) := L_w (by omega)
      have u4 : wrap64 ((D_py l i - D_py l (i - 1)) * (x - D_px l (i - 1))) = (D_py l i - D_py l (i - 1)) * (x - D_px l (i - 1)) := L_w (by omega)
      have u5 : ((D_py l i - D_py l (i - 1)) * (x - D_px l (i - 1))).tdiv (D_px l i - D_px l (i - 1)) = (D_py l i - D_py l (i - 1)) * (x - D_px l (i - 1)) / (D_px l i - D_px l (i - 1)) := Int.tdiv_eq_ediv_of_nonneg hb.1.1
      have u6 : wrap64 ((D_py l i - D_py l (i - 1)) * (x - D_px l (i - 1)) / (D_px l i - D_px l (i - 1))) = (D_py l i - D_py l (i - 1)) * (x - D_px l (i - 1)) / (D_px l i - D_px l (i - 1)) := L_w (by omega)
      have u7 : wrap64 (D_py l (i - 1) + (D_py l i - D_py l (i - 1)) * (x - D_px l (i - 1)) / (D_px l i - D_px l (i - 1))) = D_py l (i - 1) + (D_py l i - D_py l (i - 1)) * (x - D_px l (i - 1)) / (D_px l i - D_px l (i - 1)) := L_w (by omega)
      have c5 : ¬ (D_px l i - D_px l (i - 1) = 0) := by omega
      simp only [if_neg hc, v1, v2, u1, u2, u3, u4, u5, u6, u7, if_neg c5]
      unfold D_interp
      rw [e]
      exact ⟨⟨rfl, rfl⟩, by omega, by omega, i - 1, by omega, by omega, hp, by rw [e]; omega, by rw [e]⟩

theorem L_at {l : List S101} (h : D_curve l = true) {x : Int} {k : Nat} (hk : 13 ≤ k) : spec_l02At.f k l x = some (D_at l x) ∧ impl_Curve_at.f k l x = some (D_at l x) ∧ 0 ≤ D_at l x ∧ D_at l x ≤ 400 := by
  obtain ⟨hl, hf⟩ := L_curveFacts h
  have f0 := hf 0 (by omega) (by omega)
  have fn := hf ((l.length : Int) - 1) (by omega) (by omega)
  have w1 : wrap64 ((l.length : Int) - 1) = (l.length : Int) - 1 := L_w (by omega)
  have c1 : 0 < (l.length : Int) := by omega
  have c2 : 0 ≤ (l.length : Int) - 1 := by omega
  have c3 : (l.length : Int) - 1 < (l.length : Int) := by omega
  have wx0 : wrap64 (D_px l 0) = D_px l 0 := L_w (by omega)
  have wy0 : wrap64 (D_py l 0) = D_py l 0 := L_w (by omega)
  have wx1 : wrap64 (D_px l ((l.length : Int) - 1)) = D_px l ((l.length : Int) - 1) := L_w (by omega)
  have wy1 : wrap64 (D_py l ((l.length : Int) - 1)) = D_py l ((l.length : Int) - 1) := L_w (by omega)
  unfold spec_l02At.f impl_Curve_at.f D_at
  simp only [L_pxF, L_pyF, w1, wx0, wy0, wx1, wy1, if_pos c1, if_pos c2, if_pos c3]
  by_cases h1 : x ≤ D_px l 0
  · simp only [if_pos h1]; exact ⟨trivial, trivial, by omega, by omega⟩
  · by_cases h2 : x ≥ D_px l ((l.length : Int) - 1)
    · simp only [if_neg h1, if_pos h2]; exact ⟨trivial, trivial, by omega, by omega⟩
    · simp only [if_neg h1, if_neg h2]
      obtain ⟨⟨a1, a2⟩, a3, a4, _⟩ := L_atLoops h (x := x) (by omega) (l.length - 1) k 1 (by omega) (by omega) (by omega) (by rw [show (1 : Int) - 1 = 0 by omega]; omega)
      exact ⟨a1, a2, a3, a4⟩

theorem L_placeFrom {l : List S101} (h : D_curve l = true) (y : Int) (d : Nat) : ∀ (k : Nat) (i : Int), -200 ≤ i → i + d = 201 → d + 14 ≤ k →
    spec_l02For.l0 k l y i = some (D_placeFrom l y d i) ∧ impl_Curve_firstPlace.l0 k l y i = some (D_placeFrom l y d i) ∧ i ≤ D_placeFrom l y d i ∧ D_placeFrom l y d i ≤ 201 ∧ (∀ j, i ≤ j → j < D_placeFrom l y d i → D_at l j < y) ∧ (D_placeFrom l y d i ≤ 200 → D_at l (D_placeFrom l y d i) ≥ y) := by
  induction d with
  | zero =>
    intro k i h0 hd hk
    obtain ⟨k, rfl⟩ : ∃ m, k = m + 1 := ⟨k - 1, by omega⟩
    simp only [spec_l02For.l0, impl_Curve_firstPlace.l0, D_placeFrom]
    have c : ¬ (i ≤ 200) := by omega
    simp only [if_neg c]
    exact ⟨trivial, trivial, by omega, by omega, fun j h1 h2 => by omega, fun h => by omega⟩
  | succ d ih =>
    intro k i h0 hd hk
    obtain ⟨k, rfl⟩ : ∃ m, k = m + 1 := ⟨k - 1, by omega⟩
    obtain ⟨f1, f2, f3, f4⟩ := L_at h (x := i) (k := k) (by omega)
    simp only [spec_l02For.l0, impl_Curve_firstPlace.l0, D_placeFrom]
    have c : i ≤ 200 := by omega
    have w : wrap64 (i + 1) = i + 1 := L_w (by omega)
    simp only [if_pos c, f1, f2, Option.bind_some, w]
    obtain ⟨a1, a2, a3, a4, a5, a6⟩ := ih k (i + 1) (by omega) (by omega) (by omega)
    by_cases hc : D_at l i < y
    · simp only [if_pos hc]
      refine ⟨a1, a2, by omega, a4, fun j h1 h2 => ?_, a6⟩
      by_cases e : j = i
      · rw [e]; exact hc
      · exact a5 j (by omega) h2
    · simp only [if_neg hc]
      exact ⟨trivial, trivial, by omega, by omega, fun j h1 h2 => by omega, fun _ => by omega⟩

theorem L_atSeg {l : List S101} (h : D_curve l = true) (x : Int) : (x ≤ D_px l 0 ∧ D_at l x = D_py l 0) ∨ (D_px l 0 < x ∧ x ≥ D_px l ((l.length : Int) - 1) ∧ D_at l x = D_py l ((l.length : Int) - 1)) ∨
    (D_px l 0 < x ∧ x < D_px l ((l.length : Int) - 1) ∧ ∃ j : Int, 0 ≤ j ∧ j + 1 < l.length ∧ D_px l j ≤ x ∧ x < D_px l (j + 1) ∧ D_at l x = D_interp l x j) := by
  obtain ⟨hl, hf⟩ := L_curveFacts h
  unfold D_at
  by_cases h1 : x ≤ D_px l 0
  · rw [if_pos h1]; exact .inl ⟨h1, rfl⟩
  · rw [if_neg h1]
    by_cases h2 : x ≥ D_px l ((l.length : Int) - 1)
    · rw [if_pos h2]; exact .inr (.inl ⟨by omega, h2, rfl⟩)
    · rw [if_neg h2]
      obtain ⟨_, _, _, j, a1, a2, a3, a4, a5⟩ := L_atLoops h (x := x) (by omega) (l.length - 1) 13 1 (by omega) (by omega) (by omega) (by rw [show (1 : Int) - 1 = 0 by omega]; omega)
      exact .inr (.inr ⟨by omega, by omega, j, by omega, a2, a3, a4, a5⟩)

theorem L_mono {l : List S101} (h : D_curve l = true) (d : Nat) : ∀ i : Int, 0 ≤ i → i + d < l.length → D_px l i + d ≤ D_px l (i + d) ∧ D_py l i ≤ D_py l (i + d) := by
  obtain ⟨hl, hf⟩ := L_curveFacts h
  induction d with
  | zero => intro i h0 h1; simp
  | succ d ih =>
    intro i h0 h1
    obtain ⟨a, b⟩ := ih i h0 (by omega)
    have f := (hf (i + ((d + 1 : Nat) : Int)) (by omega) (by omega)).2 (by omega)
    rw [show i + ((d + 1 : Nat) : Int) - 1 = i + (d : Int) by omega] at f
    omega

theorem L_mono2 {l : List S101} (h : D_curve l = true) {i j : Int} (h0 : 0 ≤ i) (hij : i ≤ j) (hj : j < l.length) : D_px l i ≤ D_px l j ∧ D_py l i ≤ D_py l j := by
  have := L_mono h (j - i).toNat i h0 (by omega)
  rw [show i + ((j - i).toNat : Int) = j by omega] at this
  omega

theorem L_interpRange {l : List S101} (h : D_curve l = true) {x j : Int} (h0 : 0 ≤ j) (h1 : j + 1 < l.length) (h2 : D_px l j ≤ x) (h3 : x < D_px l (j + 1)) : D_py l j ≤ D_interp l x j ∧ D_interp l x j ≤ D_py l (j + 1) := by
  obtain ⟨hl, hf⟩ := L_curveFacts h
  have f0 := hf j h0 (by omega)
  have f1 := hf (j + 1) (by omega) h1
  have f2 := f1.2 (by omega)
  rw [show j + 1 - 1 = j by omega] at f2
  have hb := L_interpb (y0 := D_py l j) (y1 := D_py l (j + 1)) (x0 := D_px l j) (x1 := D_px l (j + 1)) (x := x) (by omega) (by omega) (by omega) (by omega) h2 (by omega) (by omega)
  unfold D_interp
  omega

theorem L_atMono {l : List S101} (h : D_curve l = true) {x y : Int} (hxy : x ≤ y) : D_at l x ≤ D_at l y := by
  obtain ⟨hl, hf⟩ := L_curveFacts h
  have hn : (0 : Int) ≤ (l.length : Int) - 1 := by omega
  rcases L_atSeg h x with ⟨a1, a2⟩ | ⟨a0, a1, a2⟩ | ⟨a0, a1, j, j0, j1, j2, j3, j4⟩
  · rw [a2]
    rcases L_atSeg h y with ⟨b1, b2⟩ | ⟨b0, b1, b2⟩ | ⟨b0, b1, i, i0, i1, i2, i3, i4⟩
    · rw [b2]; exact Int.le_refl _
    · rw [b2]; exact (L_mono2 h (i := 0) (j := (l.length : Int) - 1) (by omega) hn (by omega)).2
    · rw [i4]
      have := (L_mono2 h (i := 0) (j := i) (by omega) i0 (by omega)).2
      have := L_interpRange h i0 i1 i2 i3
      omega
  · rcases L_atSeg h y with ⟨b1, b2⟩ | ⟨b0, b1, b2⟩ | ⟨b0, b1, i, i0, i1, i2, i3, i4⟩
    · omega
    · rw [a2, b2]; exact Int.le_refl _
    · omega
  · rw [j4]
    have r1 := L_interpRange h j0 j1 j2 j3
    rcases L_atSeg h y with ⟨b1, b2⟩ | ⟨b0, b1, b2⟩ | ⟨b0, b1, i, i0, i1, i2, i3, i4⟩
    · omega
    · rw [b2]
      have := (L_mono2 h (i := j + 1) (j := (l.length : Int) - 1) (by omega) (by omega) (by omega)).2
      omega
    · rw [i4]
      have r2 := L_interpRange h i0 i1 i2 i3
      rcases Int.lt_trichotomy j i with hji | hji | hji
      · have := (L_mono2 h (i := j + 1) (j := i) (by omega) (by omega) (by omega)).2
        omega
      · subst hji
        have f1 := hf (j + 1) (by omega) j1
        have f2 := f1.2 (by omega)
        rw [show j + 1 - 1 = j by omega] at f2
        unfold D_interp
        have m : (D_py l (j + 1) - D_py l j) * (x - D_px l j) ≤ (D_py l (j + 1) - D_py l j) * (y - D_px l j) := Int.mul_le_mul_of_nonneg_left (by omega) (by omega)
        have m2 := Int.ediv_le_ediv (c := D_px l (j + 1) - D_px l j) (by omega) m
        omega
      · have := (L_mono2 h (i := i + 1) (j := j) (by omega) (by omega) (by omega)).1
        omega

theorem L_place {l : List S101} (h : D_curve l = true) (y : Int) {k : Nat} (hk : 415 ≤ k) :
    spec_l02For.f k l y = some (D_place l y) ∧ impl_Curve_firstPlace.f k l y = some (D_place l y) ∧ -200 ≤ D_place l y ∧ D_place l y ≤ 201 ∧ (∀ j, -200 ≤ j → j < D_place l y → D_at l j < y) ∧ (∀ j, D_place l y ≤ j → j ≤ 200 → D_at l j ≥ y) := by
  obtain ⟨a1, a2, a3, a4, a5, a6⟩ := L_placeFrom h y 401 k (-200) (by omega) (by omega) (by omega)
  refine ⟨a1, a2, a3, a4, a5, fun j h1 h2 => ?_⟩
  have b := a6 (show D_placeFrom l y 401 (-200) ≤ 200 by unfold D_place at h1; omega)
  have := L_atMono h (x := D_place l y) (y := j) h1
  unfold D_place at this
  omega

theorem L_rdP {l : List S101} {i : Int} (h0 : 0 ≤ i) (h : i < l.length) : ∃ hi : i.toNat < l.length, rd_T101 l i = l[i.toNat]'hi :=
  ⟨by omega, by unfold rd_T101; rw [List.getD_eq_getElem?_getD, List.getElem?_eq_getElem (by omega)]; rfl⟩

theorem L_p16 {l : List S101} (h : D_i16s l) {i : Int} (h0 : 0 ≤ i) (h1 : i < l.length) : (-32768 ≤ D_px l i ∧ D_px l i ≤ 32767) ∧ -32768 ≤ D_py l i ∧ D_py l i ≤ 32767 := by
  obtain ⟨hi, e⟩ := L_rdP (l := l) (i := i) h0 h1
  unfold D_px D_py
  rw [e]
  exact h _ (List.getElem_mem hi)

theorem L_specPoint {x y : Int} (hx : -32768 ≤ x ∧ x ≤ 32767) (hy : -32768 ≤ y ∧ y ≤ 32767) : spec_l02Point.f x y = some (decide ((-200 ≤ x ∧ x ≤ 200) ∧ 0 ≤ y ∧ y ≤ 400)) := by
  unfold spec_l02Point.f spec_l02Place.f
  rw [L_w (x := x) (by omega), L_w (x := y) (by omega), L_in, L_specDensity]
  simp only [Option.bind_some, decide_eq_true_eq]
  split
  · exact L_sd (by omega)
  · exact L_sf (by omega)

theorem L_specShapeLoop (l : List S101) (h16 : D_i16s l) (hn : l.length ≤ 140737488351232) (d : Nat) : ∀ (k : Nat) (i : Int), 0 ≤ i → i + d = l.length → d < k → spec_l02Shape.l0 k l i = some (D_shapeFrom l d i) := by
  induction d with
  | zero =>
    intro k i h0 hd hk
    obtain ⟨k, rfl⟩ : ∃ m, k = m + 1 := ⟨k - 1, by omega⟩
    simp only [spec_l02Shape.l0, D_shapeFrom]; rw [if_neg (by omega)]
  | succ d ih =>
    intro k i h0 hd hk
    obtain ⟨k, rfl⟩ : ∃ m, k = m + 1 := ⟨k - 1, by omega⟩
    have hp := L_p16 h16 h0 (show i < l.length by omega)
    have ih' := ih k (i + 1) (by omega) (by omega) (by omega)
    simp only [spec_l02Shape.l0, D_shapeFrom]
    rw [if_pos (by omega), if_pos h0, L_w (x := i + 1) (by omega), L_w (x := i - 1) (by omega)]
    change (spec_l02Point.f (D_px l i) (D_py l i)).bind _ = _
    rw [L_specPoint hp.1 hp.2]
    simp only [Option.bind_some, decide_eq_true_eq]
    by_cases h1 : (-200 ≤ D_px l i ∧ D_px l i ≤ 200) ∧ 0 ≤ D_py l i ∧ D_py l i ≤ 400
    · rw [if_pos h1, if_pos h1]
      by_cases h2 : i > 0
      · rw [if_pos h2, if_pos h2, if_pos (by omega), if_pos (by omega)]
        change (if D_px l i ≤ D_px l (i - 1) then _ else (if D_py l i < D_py l (i - 1) then _ else _)) = _
        by_cases h3 : D_px l i ≤ D_px l (i - 1)
        · rw [if_pos h3, if_pos h3]
        · rw [if_neg h3, if_neg h3]
          by_cases h4 : D_py l i < D_py l (i - 1)
          · rw [if_pos h4, if_pos h4]
          · rw [if_neg h4, if_neg h4, ih']
      · rw [if_neg h2, if_neg h2, ih']
    · rw [if_neg h1, if_neg h1]

theorem L_specCurve (l : List S101) (h16 : D_i16s l) (hn : l.length ≤ 140737488351232) {k : Nat} (hk : l.length < k) : spec_l02Ok.f k l = some (D_curve l) := by
  unfold spec_l02Ok.f spec_l02Shape.f D_curve
  rw [L_specShapeLoop l h16 hn l.length k 0 (by omega) (by omega) hk]
  simp only [Option.bind_some]
  show _ = some (D_shape l && _)
  unfold D_shape
  split
  · rename_i h; rw [h]; rfl
  · rename_i h; rw [Bool.eq_false_iff.mpr h]; rfl

theorem L_isPlace (x : Int) : impl_isPlace.f x = some (decide (-200 ≤ x ∧ x ≤ 200)) := by unfold impl_isPlace.f; rw [L_within]; rfl

theorem L_implPoint {x y : Int} (hx : -32768 ≤ x ∧ x ≤ 32767) (hy : -32768 ≤ y ∧ y ≤ 32767) : impl_isPoint.f x y = some (decide ((-200 ≤ x ∧ x ≤ 200) ∧ 0 ≤ y ∧ y ≤ 400)) := by
  unfold impl_isPoint.f
  rw [L_w (x := x) (by omega), L_w (x := y) (by omega), L_isPlace, L_isDensity]
  simp only [Option.bind_some, decide_eq_true_eq]
  split
  · exact L_sd (by omega)
  · exact L_sf (by omega)

theorem L_implShapeLoop (l : List S101) (h16 : D_i16s l) (hn : l.length ≤ 140737488351232) (d : Nat) : ∀ (k : Nat) (i : Int), 0 ≤ i → i + d = l.length → d < k → impl_isCurve.l0 k l l (l.length : Int) i = some (D_shapeFrom l d i) := by
  induction d with
  | zero =>
    intro k i h0 hd hk
    obtain ⟨k, rfl⟩ : ∃ m, k = m + 1 := ⟨k - 1, by omega⟩
    simp only [impl_isCurve.l0, D_shapeFrom]; rw [if_neg (by omega)]
  | succ d ih =>
    intro k i h0 hd hk
    obtain ⟨k, rfl⟩ : ∃ m, k = m + 1 := ⟨k - 1, by omega⟩
    have hp := L_p16 h16 h0 (show i < l.length by omega)
    have ih' := ih k (i + 1) (by omega) (by omega) (by omega)
    simp only [impl_isCurve.l0, D_shapeFrom]
    rw [if_pos (by omega), if_pos h0, if_pos (by omega), L_w (x := i + 1) (by omega), L_w (x := i - 1) (by omega)]
    change (impl_isPoint.f (D_px l i) (D_py l i)).bind _ = _
    rw [L_implPoint hp.1 hp.2]
    simp only [Option.bind_some, decide_eq_true_eq]
    by_cases h1 : (-200 ≤ D_px l i ∧ D_px l i ≤ 200) ∧ 0 ≤ D_py l i ∧ D_py l i ≤ 400
    · rw [if_pos h1, if_pos h1]
      by_cases h2 : i > 0
      · rw [if_pos h2, if_pos h2, if_pos (by omega), if_pos (by omega)]
        change (if D_px l (i - 1) ≥ D_px l i then _ else (if D_py l (i - 1) > D_py l i then _ else _)) = _
        by_cases h3 : D_px l i ≤ D_px l (i - 1)
        · rw [if_pos (by omega), if_pos h3]
        · rw [if_neg (by omega), if_neg h3]
          by_cases h4 : D_py l i < D_py l (i - 1)
          · rw [if_pos (by omega), if_pos h4]
          · rw [if_neg (by omega), if_neg h4, ih']
      · rw [if_neg h2, if_neg h2, ih']
    · rw [if_neg h1, if_neg h1]

theorem L_implCurve (l : List S101) (h16 : D_i16s l) (hn : l.length ≤ 140737488351232) {k : Nat} (hk : l.length < k) : impl_ValidCurve.f k l = some (D_curve l) := by
  unfold impl_ValidCurve.f impl_isCurve.f D_curve
  rw [L_implShapeLoop l h16 hn l.length k 0 (by omega) (by omega) hk]
  simp only [Option.bind_some]
  show _ = some (D_shape l && _)
  unfold D_shape
  split
  · rename_i h; rw [h]; rfl
  · rename_i h; rw [Bool.eq_false_iff.mpr h]; rfl

theorem L_curveCode (l : List S101) (h16 : D_i16s l) (hn : l.length ≤ 140737488351232) (b : Bool) {k : Nat} (hk : l.length < k) : impl_curveCode.f k l b = some (if D_curve l = true then (if b = true then 0 else 2) else 1) := by
  unfold impl_curveCode.f
  rw [L_implCurve l h16 hn hk]
  simp only [Option.bind_some]
  split
  · split <;> rfl
  · rfl


theorem L_scaleLoop {l : List S101} (h : D_curve l = true) (y hi : Int) (hhi : -200 ≤ hi ∧ hi ≤ 200) (d : Nat) : ∀ (k : Nat) (i : Int), i ≤ 200 → i + 201 = d → d + 14 ≤ k → (∀ j, i < j → j ≤ 200 → D_at l j > y) →
    spec_l05Scale.l0 k l y hi i = some (if D_place l (y + 1) ≤ -200 then (0, false) else (hi - (D_place l (y + 1) - 1), true)) := by
  obtain ⟨_, _, p3, p4, p5, p6⟩ := L_place h (y + 1) (k := 415) (by omega)
  induction d with
  | zero =>
    intro k i h0 hd hk hj
    obtain ⟨k, rfl⟩ : ∃ m, k = m + 1 := ⟨k - 1, by omega⟩
    simp only [spec_l05Scale.l0]
    rw [if_neg (by omega)]
    rw [if_pos]
    rcases Int.lt_or_le (-200) (D_place l (y + 1)) with hc | hc
    · have := p5 (-200) (by omega) hc
      have := hj (-200) (by omega) (by omega)
      omega
    · exact hc
  | succ d ih =>
    intro k i h0 hd hk hj
    obtain ⟨k, rfl⟩ : ∃ m, k = m + 1 := ⟨k - 1, by omega⟩
    obtain ⟨f1, f2, f3, f4⟩ := L_at h (x := i) (k := k) (by omega)
    simp only [spec_l05Scale.l0]
    rw [if_pos (by omega), f1]
    simp only [Option.bind_some]
    by_cases hc : D_at l i ≤ y
    · have e : D_place l (y + 1) - 1 = i := by
        rcases Int.lt_trichotomy (D_place l (y + 1) - 1) i with q | q | q
        · have := p6 i (by omega) (by omega)
          omega
        · exact q
        · have := p5 (i + 1) (by omega) (by omega)
          have := hj (i + 1) (by omega) (by omega)
          omega
      rw [if_pos hc, if_neg (by omega), e, L_w (by omega)]
    · rw [if_neg hc, L_w (x := i - 1) (by omega)]
      refine ih k (i - 1) (by omega) (by omega) (by omega) (fun j h1 h2 => ?_)
      by_cases e : j = i
      · rw [e]; omega
      · exact hj j (by omega) h2

theorem L_scale (l : List S101) (h16 : D_i16s l) (hn : l.length ≤ 140737488351232) (a b : Int) : ∃ r, ∀ k, l.length + 500 ≤ k → spec_ScaleOf.f k l a b = some r ∧ impl_ScaleOf.f k l a b = some r := by
  have hs : ∀ a b : Int, spec_l05Ends.f a b = some (decide ((0 ≤ a ∧ a ≤ 400) ∧ (0 ≤ b ∧ b ≤ 400) ∧ a < b)) ∧ impl_areScaled.f a b = some (decide ((0 ≤ a ∧ a ≤ 400) ∧ (0 ≤ b ∧ b ≤ 400) ∧ a < b)) := fun a b => by
    unfold spec_l05Ends.f impl_areScaled.f
    simp only [L_specDensity, L_isDensity, Option.bind_some, decide_eq_true_eq]
    constructor
    all_goals
      repeat' split
      all_goals first | exact L_sd (by omega) | exact L_sf (by omega)
  by_cases hc : D_curve l = true
  · by_cases h1 : (0 ≤ a ∧ a ≤ 400) ∧ (0 ≤ b ∧ b ≤ 400) ∧ a < b
    · refine ⟨if D_place l b ≤ 200 ∧ -200 < D_place l (a + 1) then (D_place l b - (D_place l (a + 1) - 1), 0) else (0, 6), fun k hk => ?_⟩
      obtain ⟨p1, p2, p3, p4, p5, p6⟩ := L_place hc b (k := k) (by omega)
      obtain ⟨q1, q2, q3, q4, q5, q6⟩ := L_place hc (a + 1) (k := k) (by omega)
      have wa : wrap64 (a + 1) = a + 1 := L_w (by omega)
      have wq : wrap64 (D_place l (a + 1) - 1) = D_place l (a + 1) - 1 := L_w (by omega)
      have wr : wrap64 (D_place l b - (D_place l (a + 1) - 1)) = D_place l b - (D_place l (a + 1) - 1) := L_w (by omega)
      have h2 : 0 ≤ b ∧ b ≤ 400 := h1.2.1
      unfold spec_ScaleOf.f impl_ScaleOf.f spec_l05Scale.f spec_ExposureFor.f spec_l02Dense.f impl_Curve_scale.f
      simp only [L_specCurve l h16 hn (show l.length < k by omega), L_curveCode l h16 hn _ (show l.length < k by omega), (hs a b).1, (hs a b).2, Option.bind_some, hc, decide_eq_true h1, if_true, L_specDensity, decide_eq_true h2, p1, p2, wa, q2, wq, L_isPlace, decide_eq_true_eq, wr]
      by_cases h3 : D_place l b > 200
      · have c1 : ¬ (D_place l b ≤ 200 ∧ -200 < D_place l (a + 1)) := by omega
        have c2 : ¬ (-200 ≤ D_place l b ∧ D_place l b ≤ 200) := by omega
        simp only [if_pos h3, if_neg c1, if_neg c2]
        refine ⟨by simp, ?_⟩
        split <;> rfl
      · rw [if_neg h3]
        simp only [Option.bind_some, if_true]
        rw [L_scaleLoop hc a (D_place l b) (by omega) 401 k 200 (by omega) (by omega) (by omega) (fun j h1 h2 => by omega)]
        simp only [Option.bind_some]
        have c2 : -200 ≤ D_place l b ∧ D_place l b ≤ 200 := by omega
        by_cases h4 : D_place l (a + 1) ≤ -200
        · have c1 : ¬ (D_place l b ≤ 200 ∧ -200 < D_place l (a + 1)) := by omega
          have c3 : ¬ (-200 ≤ D_place l (a + 1) - 1 ∧ D_place l (a + 1) - 1 ≤ 200) := by omega
          simp only [if_pos h4, if_neg c1, if_neg c3]
          exact ⟨by simp, by first | rfl | trivial⟩
        · have c1 : D_place l b ≤ 200 ∧ -200 < D_place l (a + 1) := by omega
          have c3 : -200 ≤ D_place l (a + 1) - 1 ∧ D_place l (a + 1) - 1 ≤ 200 := by omega
          simp only [if_neg h4, if_pos c1, if_pos c3, if_pos c2]
          exact ⟨by simp, by first | rfl | trivial⟩
    · refine ⟨(0, 2), fun k hk => ?_⟩
      unfold spec_ScaleOf.f impl_ScaleOf.f
      simp only [L_specCurve l h16 hn (show l.length < k by omega), L_curveCode l h16 hn _ (show l.length < k by omega), (hs a b).1, (hs a b).2, Option.bind_some, hc, decide_eq_false h1, if_true, Bool.false_eq_true, if_false]
      exact ⟨by first | rfl | trivial, by rw [if_neg (by omega)]⟩
  · refine ⟨(0, 1), fun k hk => ?_⟩
    have hc' := Bool.eq_false_iff.mpr hc
    unfold spec_ScaleOf.f impl_ScaleOf.f
    simp only [L_specCurve l h16 hn (show l.length < k by omega), L_curveCode l h16 hn _ (show l.length < k by omega), (hs a b).2, hc', Option.bind_some, Bool.false_eq_true, if_false]
    exact ⟨by first | rfl | trivial, by rw [if_neg (by omega)]⟩

theorem L_szCurve (l : List S103) (a : Int) (ha : 0 ≤ a ∧ a ≤ 1048576) (h : l.length * 4 ≤ 140737488351232) : laws_szCurve.f l a = some (if a < (l.length : Int) then (-1 : Int) else a - (l.length : Int)) := by
  unfold laws_szCurve.f; rw [L_w (by omega)]
  by_cases h : a < (l.length : Int)
  · rw [if_pos (by omega), if_pos h]
  · rw [if_neg (by omega), if_neg h]

theorem L_rdLP {l : List S103} {i : Int} (h0 : 0 ≤ i) (h : i < l.length) : ∃ hi : i.toNat < l.length, rd_T103 l i = l[i.toNat]'hi :=
  ⟨by omega, by unfold rd_T103; rw [List.getD_eq_getElem?_getD, List.getElem?_eq_getElem (by omega)]; rfl⟩

theorem L_toCurveLoop (l : List S103) (hn : l.length ≤ 1048576) (d : Nat) : ∀ (k : Nat) (out : List S101) (i : Int), out.length = l.length → 0 ≤ i → i + d = l.length → d < k → out.take i.toNat = (l.map D_point).take i.toNat → laws_toCurve.l0 k l out i = some (l.map D_point) := by
  induction d with
  | zero =>
    intro k out i ho h0 hd hk ht
    obtain ⟨k, rfl⟩ : ∃ m, k = m + 1 := ⟨k - 1, by omega⟩
    simp only [laws_toCurve.l0]; rw [if_neg (by omega)]
    rw [List.take_of_length_le (by omega), List.take_of_length_le (by simp; omega)] at ht
    rw [ht]
  | succ d ih =>
    intro k out i ho h0 hd hk ht
    obtain ⟨k, rfl⟩ : ∃ m, k = m + 1 := ⟨k - 1, by omega⟩
    obtain ⟨hi, e⟩ := L_rdLP (l := l) (i := i) h0 (by omega)
    simp only [laws_toCurve.l0, laws_toPoint.f, Option.bind_some]; rw [if_pos (by omega), if_pos h0, if_pos (by omega), L_w (x := i + 1) (by omega)]
    refine ih k _ (i + 1) (by simpa using ho) (by omega) (by omega) (by omega) ?_
    rw [show (i + 1).toNat = i.toNat + 1 by omega, List.take_succ_eq_append_getElem (by simp; omega), List.take_succ_eq_append_getElem (by simpa using hi), List.getElem_set_self, List.take_set_of_le (by omega), ht, List.getElem_map, e]
    rfl

theorem L_toCurve (l : List S103) (hn : l.length ≤ 1048576) {k : Nat} (hk : l.length < k) : laws_toCurve.f k l = some (l.map D_point) := by
  unfold laws_toCurve.f
  rw [if_pos (by omega), if_pos (by omega)]
  exact L_toCurveLoop l hn l.length k _ 0 (by simp) (by omega) (by omega) hk (by simp)

theorem L_eqCurve (l : List S101) (hn : l.length ≤ 140737488351232) {k : Nat} (hk : l.length < k) : laws_eqCurve.f k l l = some true := by
  have H : ∀ (d : Nat) (k : Nat) (i : Int), 0 ≤ i → i + d = l.length → d < k → laws_eqCurve.l0 k l l i = some true := by
    intro d
    induction d with
    | zero =>
      intro k i h0 hd hk
      obtain ⟨k, rfl⟩ : ∃ m, k = m + 1 := ⟨k - 1, by omega⟩
      simp only [laws_eqCurve.l0]; rw [if_neg (by omega)]
    | succ d ih =>
      intro k i h0 hd hk
      obtain ⟨k, rfl⟩ : ∃ m, k = m + 1 := ⟨k - 1, by omega⟩
      simp only [laws_eqCurve.l0, laws_eqPoint.f, if_true, Option.bind_some]; rw [if_pos (by omega), if_pos h0, if_pos (by omega), L_w (x := i + 1) (by omega)]
      exact ih k (i + 1) (by omega) (by omega) (by omega)
  unfold laws_eqCurve.f; rw [if_pos rfl]; exact H l.length k 0 (by omega) (by omega) hk

theorem FnExactScaleOf : ∀ (l0 : List S103) (a1 : Int) (a2 : Int), (∀ x ∈ l0, -32768 ≤ x.f0 ∧ x.f0 ≤ 32767 ∧ -32768 ≤ x.f1 ∧ x.f1 ≤ 32767) → l0.length * 4 ≤ 140737488351232 → -9223372036854775808 ≤ a1 → a1 ≤ 9223372036854775807 → -9223372036854775808 ≤ a2 → a2 ≤ 9223372036854775807 → ∃ k, laws_FnExactScaleOf.f k l0 a1 a2 = some true := by
  intro l a b h8 hl _ _ _ _
  have h16 := L_map16 l h8
  obtain ⟨r, e⟩ := L_scale (l.map D_point) h16 (by simp; omega) a b
  refine ⟨l.length + 1000, ?_⟩
  obtain ⟨e1, e2⟩ := e (l.length + 1000) (by simp)
  unfold laws_FnExactScaleOf.f
  rw [L_szCurve l 1048576 (by omega) hl]
  simp only [Option.bind_some]
  by_cases h : (1048576 : Int) < (l.length : Int)
  · rw [if_pos h]; rfl
  · rw [if_neg h, if_neg (by omega), L_toCurve l (by omega) (by omega)]
    simp only [Option.bind_some]
    rw [e1, e2]
    simp only [Option.bind_some, if_true, bne_self_eq_false]
    simp only [laws_FnExactScaleOf.j0, Bool.false_eq_true, if_false]
    rw [L_toCurve l (by omega) (by omega)]
    simp only [Option.bind_some]
    rw [L_eqCurve _ (by simp; omega) (by simp)]
    simp

end Go.Proofs.Ytiaaibiodolcgaa.Pure
