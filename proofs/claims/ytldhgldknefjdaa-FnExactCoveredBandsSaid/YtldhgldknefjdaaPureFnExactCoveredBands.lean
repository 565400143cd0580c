/- The plain law of FnExactCoveredBands: the printed function of the law answers true for all arguments within their kinds' bounds. No condition besides. -/
import Derived.Test.YtldhgldknefjdaaQx19
namespace Go.Proofs.Ytldhgldknefjdaa.Pure
open Go.RowKit Go.Proofs.Ytldhgldknefjdaa.Q Go.Proofs.YtldhgldknefjdaaW.PrintWords Go.Proofs.YtldhgldknefjdaaW.PrintLast Go.Proofs.YtldhgldknefjdaaW.PrintMore
set_option linter.unusedVariables false
set_option linter.unusedSimpArgs false
def D_i16s (l : List S66) : Prop := ∀ x ∈ l, (-32768 ≤ x.f0 ∧ x.f0 ≤ 32767) ∧ -32768 ≤ x.f1 ∧ x.f1 ≤ 32767

def D_point (x : S68) : S66 := ⟨x.f0, x.f1⟩

theorem L_map16 (l : List S68) (h : ∀ x ∈ l, -32768 ≤ x.f0 ∧ x.f0 ≤ 32767 ∧ -32768 ≤ x.f1 ∧ x.f1 ≤ 32767) : D_i16s (l.map D_point) := by
  intro x hx
  simp only [List.mem_map] at hx
  obtain ⟨y, hy, rfl⟩ := hx
  have := h y hy
  unfold D_point
  dsimp only
  omega

def D_strip (a b c : Int) : Prop := 0 ≤ a ∧ a ≤ 36 ∧ 1 ≤ b ∧ b ≤ 9 ∧ 1 ≤ c ∧ c ≤ 20 ∧ a + b * (c - 1) ≤ 36
instance (a b c : Int) : Decidable (D_strip a b c) := by unfold D_strip; infer_instance

def D_px (l : List S66) (i : Int) : Int := (rd_T66 l i).f0

def D_py (l : List S66) (i : Int) : Int := (rd_T66 l i).f1

def D_shapeFrom (l : List S66) : Nat → Int → Bool
  | 0, _ => decide ((l.length : Int) > 0)
  | d + 1, i => if (-200 ≤ D_px l i ∧ D_px l i ≤ 200) ∧ 0 ≤ D_py l i ∧ D_py l i ≤ 400 then (if i > 0 then (if D_px l i ≤ D_px l (i - 1) then false else (if D_py l i < D_py l (i - 1) then false else D_shapeFrom l d (i + 1))) else D_shapeFrom l d (i + 1)) else false

def D_shape (l : List S66) : Bool := D_shapeFrom l l.length 0

def D_curve (l : List S66) : Bool := D_shape l && decide ((l.length : Int) ≤ 12)

def D_inFrom (s : Int) : Nat → Int → Int
  | 0, i => i
  | d + 1, i => if tmv (i + 1) ≤ s then D_inFrom s d (i + 1) else i

def D_in (s : Int) : Int := D_inFrom s 37 (-1)

def D_coverFrom : List Int → Int → List Int
  | [], _ => []
  | x :: t, s => D_in (s + tmv x) :: D_coverFrom t (s + tmv x)

def D_lightsFrom (a b : Int) : Nat → Int → List Int
  | 0, _ => []
  | d + 1, i => (a + i * b) :: D_lightsFrom a b d (i + 1)

def D_lights (a b c : Int) : List Int := D_lightsFrom a b c.toNat 0

theorem L_coverLen : ∀ (l : List Int) (s : Int), (D_coverFrom l s).length = l.length
  | [], _ => rfl
  | x :: t, s => by simp [D_coverFrom, L_coverLen t]

theorem L_lightsFromLen (a b : Int) (d : Nat) : ∀ i, (D_lightsFrom a b d i).length = d := by
  induction d with
  | zero => intro i; rfl
  | succ d ih => intro i; simp [D_lightsFrom, ih]

theorem L_lightsLen {a b c : Int} (h : D_strip a b c) : (D_lights a b c).length ≤ 20 := by
  unfold D_lights; rw [L_lightsFromLen]; unfold D_strip at h; omega

theorem L_inFrom (s : Int) (d : Nat) : ∀ i : Int, -1 ≤ i → i + d = 36 → (0 ≤ i → tmv i ≤ s) → i ≤ D_inFrom s d i ∧ D_inFrom s d i ≤ 36 ∧ (0 ≤ D_inFrom s d i → tmv (D_inFrom s d i) ≤ s) ∧ (D_inFrom s d i < 36 → s < tmv (D_inFrom s d i + 1)) := by
  induction d with
  | zero => intro i h0 hd h; unfold D_inFrom; exact ⟨by omega, by omega, h, fun h => by omega⟩
  | succ d ih =>
    intro i h0 hd h
    unfold D_inFrom
    split
    · rename_i hle
      obtain ⟨h1, h2, h3, h4⟩ := ih (i + 1) (by omega) (by omega) (fun _ => hle)
      exact ⟨by omega, h2, h3, h4⟩
    · rename_i hgt
      exact ⟨by omega, by omega, h, fun _ => by omega⟩

theorem L_inSpec (s : Int) : -1 ≤ D_in s ∧ D_in s ≤ 36 ∧ (0 ≤ D_in s → tmv (D_in s) ≤ s) ∧ (D_in s < 36 → s < tmv (D_in s + 1)) :=
  L_inFrom s 37 (-1) (by omega) (by omega) (fun h => by omega)

theorem L_coverRange : ∀ (l : List Int) (s : Int), ∀ x ∈ D_coverFrom l s, -1 ≤ x ∧ x ≤ 36
  | [], _, x, hx => by simp [D_coverFrom] at hx
  | y :: t, s, x, hx => by
    simp only [D_coverFrom, List.mem_cons] at hx
    rcases hx with rfl | hx
    · have := L_inSpec (s + tmv y); omega
    · exact L_coverRange t _ x hx

theorem L_lightsFromMem {a b : Int} (d : Nat) : ∀ (i j : Nat), j < d → (D_lightsFrom a b d i)[j]? = some (a + ((i + j : Nat) : Int) * b) := by
  induction d with
  | zero => intro i j h; omega
  | succ d ih =>
    intro i j h
    cases j with
    | zero => simp [D_lightsFrom]
    | succ j =>
      simp only [D_lightsFrom, List.getElem?_cons_succ]
      have := ih (i + 1) j (by omega)
      rw [show ((i : Int) + 1) = ((i + 1 : Nat) : Int) by omega, this]
      congr 3; omega

theorem L_mulb {x y X Y : Int} (h : 0 ≤ x) (hx : x ≤ X) (k : 0 ≤ y) (ky : y ≤ Y) : 0 ≤ x * y ∧ x * y ≤ X * Y :=
  ⟨Int.mul_nonneg h k, Int.mul_le_mul hx ky k (Int.le_trans h hx)⟩

theorem L_lightsRange {a b c : Int} (h : D_strip a b c) : ∀ x ∈ D_lights a b c, 0 ≤ x ∧ x ≤ 36 := by
  intro x hx
  unfold D_strip at h
  obtain ⟨j, hj, rfl⟩ := List.mem_iff_getElem.1 hx
  have hl : j < c.toNat := by unfold D_lights at hj; rw [L_lightsFromLen] at hj; exact hj
  have e := L_lightsFromMem (a := a) (b := b) c.toNat 0 j hl
  have e2 : (D_lights a b c)[j]? = some (a + (((0 : Nat) + j : Nat) : Int) * b) := e
  rw [List.getElem?_eq_getElem hj] at e2
  have e3 := Option.some.inj e2
  have h1 := L_mulb (x := (j : Int)) (y := b) (X := c - 1) (Y := b) (by omega) (by omega) (by omega) (by omega)
  have h2 : (c - 1) * b = b * (c - 1) := Int.mul_comm _ _
  simp only [Nat.zero_add] at e3
  omega

def D_interp (l : List S66) (x i : Int) : Int := D_py l i + (D_py l (i + 1) - D_py l i) * (x - D_px l i) / (D_px l (i + 1) - D_px l i)

def D_atFrom (l : List S66) (x : Int) : Nat → Int → Int
  | 0, _ => 0
  | d + 1, i => if D_px l i ≤ x then D_atFrom l x d (i + 1) else D_interp l x (i - 1)

def D_at (l : List S66) (x : Int) : Int :=
  if x ≤ D_px l 0 then D_py l 0 else (if x ≥ D_px l ((l.length : Int) - 1) then D_py l ((l.length : Int) - 1) else D_atFrom l x (l.length - 1) 1)

def D_dark (l : List S66) (den light : Int) : Int := D_at l (light - (den + 5) / 10)

theorem L_rdGet {l : List Int} {i : Int} (h0 : 0 ≤ i) (h : i < l.length) : ∃ hi : i.toNat < l.length, rd l i = l[i.toNat]'hi :=
  ⟨by omega, by unfold rd; rw [List.getD_eq_getElem?_getD, List.getElem?_eq_getElem (by omega)]; rfl⟩

theorem L_shapeFacts (l : List S66) (d : Nat) : ∀ i : Int, 0 ≤ i → i + d = l.length → D_shapeFrom l d i = true →
    0 < l.length ∧ ∀ j : Int, i ≤ j → j < l.length → ((-200 ≤ D_px l j ∧ D_px l j ≤ 200) ∧ 0 ≤ D_py l j ∧ D_py l j ≤ 400) ∧ (j > 0 → D_px l (j - 1) < D_px l j ∧ D_py l (j - 1) ≤ D_py l j) := by
  induction d with
  | zero =>
    intro i h0 hd h
    simp only [D_shapeFrom, decide_eq_true_eq] at h
    exact ⟨by omega, fun j h1 h2 => by omega⟩
  | succ d ih =>
    intro i h0 hd h
    simp only [D_shapeFrom] at h
    by_cases h1 : (-200 ≤ D_px l i ∧ D_px l i ≤ 200) ∧ 0 ≤ D_py l i ∧ D_py l i ≤ 400
    · rw [if_pos h1] at h
      have key : D_shapeFrom l d (i + 1) = true ∧ (i > 0 → D_px l (i - 1) < D_px l i ∧ D_py l (i - 1) ≤ D_py l i) := by
        by_cases h2 : i > 0
        · rw [if_pos h2] at h
          by_cases h3 : D_px l i ≤ D_px l (i - 1)
          · rw [if_pos h3] at h; cases h
          · rw [if_neg h3] at h
            by_cases h4 : D_py l i < D_py l (i - 1)
            · rw [if_pos h4] at h; cases h
            · rw [if_neg h4] at h
              exact ⟨h, fun _ => by omega⟩
        · rw [if_neg h2] at h
          exact ⟨h, fun h => absurd h h2⟩
      obtain ⟨a, b⟩ := ih (i + 1) (by omega) (by omega) key.1
      refine ⟨a, fun j hj hj2 => ?_⟩
      by_cases e : j = i
      · subst e; exact ⟨h1, key.2⟩
      · exact b j (by omega) hj2
    · rw [if_neg h1] at h; cases h

theorem L_curveFacts {l : List S66} (h : D_curve l = true) : (1 ≤ l.length ∧ l.length ≤ 12) ∧ ∀ j : Int, 0 ≤ j → j < l.length → ((-200 ≤ D_px l j ∧ D_px l j ≤ 200) ∧ 0 ≤ D_py l j ∧ D_py l j ≤ 400) ∧ (j > 0 → D_px l (j - 1) < D_px l j ∧ D_py l (j - 1) ≤ D_py l j) := by
  unfold D_curve D_shape at h
  simp only [Bool.and_eq_true, decide_eq_true_eq] at h
  obtain ⟨a, b⟩ := L_shapeFacts l l.length 0 (by omega) (by omega) h.1
  exact ⟨by omega, b⟩

theorem L_w {x : Int} (h : -9223372036854775808 ≤ x ∧ x ≤ 9223372036854775807) : wrap64 x = x := by unfold wrap64; omega

theorem L_pxF (l : List S66) (i : Int) : (rd_T66 l i).f0 = D_px l i := rfl

theorem L_pyF (l : List S66) (i : Int) : (rd_T66 l i).f1 = D_py l i := rfl

theorem L_quot {a b q : Int} (ha : 0 ≤ a) (hb : 0 < b) (h : a ≤ q * b) : 0 ≤ a / b ∧ a / b ≤ q := by
  refine ⟨Int.ediv_nonneg ha (by omega), ?_⟩
  have := Int.ediv_le_ediv hb h
  rwa [Int.mul_ediv_cancel _ (by omega)] at this

theorem L_interpb {y0 y1 x0 x1 x : Int} (hy0 : 0 ≤ y0) (hy : y0 ≤ y1) (hy1 : y1 ≤ 400) (hx : x0 < x1) (h0 : x0 ≤ x) (h1 : x ≤ x1) (hb : -200 ≤ x0 ∧ x1 ≤ 200) :
    (0 ≤ (y1 - y0) * (x - x0) ∧ (y1 - y0) * (x - x0) ≤ 160000) ∧ 0 ≤ (y1 - y0) * (x - x0) / (x1 - x0) ∧ (y1 - y0) * (x - x0) / (x1 - x0) ≤ y1 - y0 := by
  have m1 := L_mulb (x := y1 - y0) (y := x - x0) (X := 400) (Y := 400) (by omega) (by omega) (by omega) (by omega)
  have m2 := L_mulb (x := y1 - y0) (y := x - x0) (X := y1 - y0) (Y := x1 - x0) (by omega) (by omega) (by omega) (by omega)
  exact ⟨by omega, L_quot m1.1 (by omega) m2.2⟩

theorem L_w16 {x : Int} (h : -32768 ≤ x ∧ x ≤ 32767) : IntKind.i16.wrap x = x := by simp [IntKind.wrap, IntKind.bits, IntKind.signed]; omega

theorem L_atLoops {l : List S66} (h : D_curve l = true) {x : Int} (hx : x < D_px l ((l.length : Int) - 1)) (d : Nat) : ∀ (k : Nat) (i : Int), 1 ≤ i → i + d = l.length → d < k → D_px l (i - 1) ≤ x →
    (spec_l02At.l0 k l x (i - 1) = some (D_atFrom l x d i) ∧ impl_Curve_at.l0 k l x i = some (D_atFrom l x d i)) ∧ 0 ≤ D_atFrom l x d i ∧ D_atFrom l x d i ≤ 400 ∧
      ∃ j, i - 1 ≤ j ∧ j + 1 < l.length ∧ D_px l j ≤ x ∧ x < D_px l (j + 1) ∧ D_atFrom l x d i = D_interp l x j := by
  obtain ⟨hl, hf⟩ := L_curveFacts h
  induction d with
  | zero =>
    intro k i h1 hd hk hp
    have : i - 1 = (l.length : Int) - 1 := by omega
    rw [this] at hp
    omega
  | succ d ih =>
    intro k i h1 hd hk hp
    obtain ⟨k, rfl⟩ : ∃ m, k = m + 1 := ⟨k - 1, by omega⟩
    have f0 := hf (i - 1) (by omega) (by omega)
    have f1 := hf i (by omega) (by omega)
    have f2 := f1.2 (by omega)
    have w1 : wrap64 (i - 1 + 1) = i := by rw [L_w (by omega)]; omega
    have w2 : wrap64 (i - 1) = i - 1 := L_w (by omega)
    have w3 : wrap64 (i + 1) = i + 1 := L_w (by omega)
    have wx1 : wrap64 (D_px l i) = D_px l i := L_w (by omega)
    have wy1 : wrap64 (D_py l i) = D_py l i := L_w (by omega)
    have wx0 : wrap64 (D_px l (i - 1)) = D_px l (i - 1) := L_w (by omega)
    have wy0 : wrap64 (D_py l (i - 1)) = D_py l (i - 1) := L_w (by omega)
    simp only [spec_l02At.l0, impl_Curve_at.l0, D_atFrom, L_pxF, L_pyF, w1, w2, w3, wx1, wy1, wx0, wy0]
    have c1 : 0 ≤ i := by omega
    have c2 : i < (l.length : Int) := by omega
    have c3 : 0 ≤ i - 1 := by omega
    have c4 : i - 1 < (l.length : Int) := by omega
    simp only [if_pos c1, if_pos c2, if_pos c3, if_pos c4]
    by_cases hc : D_px l i ≤ x
    · have e : i + 1 - 1 = i := by omega
      obtain ⟨⟨a1, a2⟩, a3, a4, j, b1, b2, b3, b4, b5⟩ := ih k (i + 1) (by omega) (by omega) (by omega) (by rw [e]; exact hc)
      rw [e] at a1
      simp only [if_pos hc]
      exact ⟨⟨a1, a2⟩, a3, a4, j, by omega, b2, b3, b4, b5⟩
    · have hb := L_interpb (y0 := D_py l (i - 1)) (y1 := D_py l i) (x0 := D_px l (i - 1)) (x1 := D_px l i) (x := x) (by omega) (by omega) (by omega) (by omega) hp (by omega) (by omega)
      have e : i - 1 + 1 = i := by omega
      have v1 : IntKind.i16.wrap (D_px l i - D_px l (i - 1)) = D_px l i - D_px l (i - 1) := L_w16 (by omega)
      have v2 : IntKind.i16.wrap (D_py l i - D_py l (i - 1)) = D_py l i - D_py l (i - 1) := L_w16 (by omega)
      have u1 : wrap64 (D_px l i - D_px l (i - 1)) = D_px l i - D_px l (i - 1) := L_w (by omega)
      have u2 : wrap64 (D_py l i - D_py l (i - 1)) = D_py l i - D_py l (i - 1) := L_w (by omega)
      have u3 : wrap64 (x - D_px l (i - 1)) = x - D_px l (i - 1) := L_w (by omega)
      have u4 : wrap64 ((D_py l i - D_py l (i - 1)) * (x - D_px l (i - 1))) = (D_py l i - D_py l (i - 1)) * (x - D_px l (i - 1)) := L_w (by omega)
      have u5 : ((D_py l i - D_py l (i - 1)) * (x - D_px l (i - 1))).tdiv (D_px l i - D_px l (i - 1)) = (D_py l i - D_py l (i - 1)) * (x - D_px l (i - 1)) / (D_px l i - D_px l (i - 1)) := Int.tdiv_eq_ediv_of_nonneg hb.1.1
      have u6 : wrap64 ((D_py l i - D_py l (i - 1)) * (x - D_px l (i - 1)) / (D_px l i - D_px l (i - 1))) = (D_py l i - D_py l (i - 1)) * (x - D_px l (i - 1)) / (D_px l i - D_px l (i - 1)) := L_w (by omega)
      have u7 : wrap64 (D_py l (i - 1) + (D_py l i - D_py l (i - 1)) * (x - D_px l (i - 1)) / (D_px l i - D_px l (i - 1))) = D_py l (i - 1) + (D_py l i - D_py l (i - 1)) * (x - D_px l (i - 1)) / (D_px l i - D_px l (i - 1)) := L_w (by omega)
      have c5 : ¬ (D_px l i - D_px l (i - 1) = 0) := by omega
      simp only [if_neg hc, v1, v2, u1, u2, u3, u4, u5, u6, u7, if_neg c5]
      unfold D_interp
      rw [e]
      exact ⟨⟨rfl, rfl⟩, by omega, by omega, i - 1, by omega, by omega, hp, by rw [e]; omega, by rw [e]⟩

theorem L_at {l : List S66} (h : D_curve l = true) {x : Int} {k : Nat} (hk : 13 ≤ k) : spec_l02At.f k l x = some (D_at l x) ∧ impl_Curve_at.f k l x = some (D_at l x) ∧ 0 ≤ D_at l x ∧ D_at l x ≤ 400 := by
  obtain ⟨hl, hf⟩ := L_curveFacts h
  have f0 := hf 0 (by omega) (by omega)
  have fn := hf ((l.length : Int) - 1) (by omega) (by omega)
  have w1 : wrap64 ((l.length : Int) - 1) = (l.length : Int) - 1 := L_w (by omega)
  have c1 : 0 < (l.length : Int) := by omega
  have c2 : 0 ≤ (l.length : Int) - 1 := by omega
  have c3 : (l.length : Int) - 1 < (l.length : Int) := by omega
  have wx0 : wrap64 (D_px l 0) = D_px l 0 := L_w (by omega)
  have wy0 : wrap64 (D_py l 0) = D_py l 0 := L_w (by omega)
  have wx1 : wrap64 (D_px l ((l.length : Int) - 1)) = D_px l ((l.length : Int) - 1) := L_w (by omega)
  have wy1 : wrap64 (D_py l ((l.length : Int) - 1)) = D_py l ((l.length : Int) - 1) := L_w (by omega)
  unfold spec_l02At.f impl_Curve_at.f D_at
  simp only [L_pxF, L_pyF, w1, wx0, wy0, wx1, wy1, if_pos c1, if_pos c2, if_pos c3]
  by_cases h1 : x ≤ D_px l 0
  · simp only [if_pos h1]; exact ⟨trivial, trivial, by omega, by omega⟩
  · by_cases h2 : x ≥ D_px l ((l.length : Int) - 1)
    · simp only [if_neg h1, if_pos h2]; exact ⟨trivial, trivial, by omega, by omega⟩
    · simp only [if_neg h1, if_neg h2]
      obtain ⟨⟨a1, a2⟩, a3, a4, _⟩ := L_atLoops h (x := x) (by omega) (l.length - 1) k 1 (by omega) (by omega) (by omega) (by rw [show (1 : Int) - 1 = 0 by omega]; omega)
      exact ⟨a1, a2, a3, a4⟩

theorem L_dark {l : List S66} (h : D_curve l = true) {den light : Int} (hd : 0 ≤ den ∧ den ≤ 400) (hl : -100 ≤ light ∧ light ≤ 100) {k : Nat} (hk : 13 ≤ k) :
    spec_l05Dark.f k l den light = some (D_dark l den light) ∧ impl_Curve_behind.f k l light den = some (D_dark l den light) ∧ 0 ≤ D_dark l den light ∧ D_dark l den light ≤ 400 := by
  obtain ⟨a1, a2, a3, a4⟩ := L_at h (x := light - (den + 5) / 10) hk
  unfold spec_l05Dark.f spec_l03Held.f impl_Curve_behind.f D_dark
  rw [L_w16 (x := den) (by omega), L_w (x := den) (by omega), L_w (x := den + 5) (by omega), Int.tdiv_eq_ediv_of_nonneg (by omega), L_w (x := (den + 5) / 10) (by omega)]
  simp only [Option.bind_some]
  rw [L_w (x := light - (den + 5) / 10) (by omega), a1, a2]
  exact ⟨rfl, rfl, a3, a4⟩

theorem L_specBandsLoop {l : List S66} (h : D_curve l = true) {den : Int} (hd : 0 ≤ den ∧ den ≤ 400) (N : Nat) (hN : N ≤ 20) (d : Nat) : ∀ (k : Nat) (L : List Int) (i : Int), L.length = N → (∀ j : Nat, i.toNat ≤ j → ∀ h : j < L.length, -1 ≤ L[j] ∧ L[j] ≤ 36) → 0 ≤ i → i + d = N → d + 14 ≤ k →
    spec_l05Bands.l0 k l den L i = some (L.take i.toNat ++ (L.drop i.toNat).map (D_dark l den), 0) := by
  induction d with
  | zero =>
    intro k L i hl hL h0 hi hk
    obtain ⟨k, rfl⟩ : ∃ m, k = m + 1 := ⟨k - 1, by omega⟩
    simp only [spec_l05Bands.l0]
    rw [if_neg (by omega), List.drop_eq_nil_of_le (by omega), List.take_of_length_le (by omega)]
    simp
  | succ d ih =>
    intro k L i hl hL h0 hi hk
    obtain ⟨k, rfl⟩ : ∃ m, k = m + 1 := ⟨k - 1, by omega⟩
    obtain ⟨hlt, e⟩ := L_rdGet (l := L) (i := i) h0 (by omega)
    have hr := hL i.toNat (Nat.le_refl _) hlt
    rw [← e] at hr
    simp only [spec_l05Bands.l0]
    rw [if_pos (by omega), if_pos h0, (L_dark h hd (by omega) (by omega)).1]
    simp only [Option.bind_some]
    rw [L_w (x := i + 1) (by omega), ih k _ (i + 1) (by simpa using hl) (fun j hj hj2 => by
      rw [List.getElem_set_ne (by omega)]; exact hL j (by omega) (by simpa using hj2)) (by omega) (by omega) (by omega)]
    rw [show (i + 1).toNat = i.toNat + 1 by omega, List.take_succ_eq_append_getElem (by simp; omega), List.getElem_set_self, List.take_set_of_le (by omega), List.drop_set_of_lt (by omega), List.drop_eq_getElem_cons hlt, ← e]
    simp

theorem L_sd {p q : Prop} [Decidable p] [Decidable q] (h : p ↔ q) : some (decide p) = some (decide q) := by rw [decide_eq_decide.mpr h]

theorem L_sf {q : Prop} [Decidable q] (h : ¬ q) : some false = some (decide q) := by rw [decide_eq_false h]

theorem L_in (a b c : Int) : spec_l00In.f a b c = some (decide (b ≤ a ∧ a ≤ c)) := by
  unfold spec_l00In.f
  split
  · exact L_sd (by omega)
  · exact L_sf (by omega)

theorem L_specThirds (a : Int) : spec_l03Thirds.f a = some (decide (0 ≤ a ∧ a ≤ 36)) := by
  unfold spec_l03Thirds.f; rw [L_in]; rfl

theorem L_stripb {b c : Int} (hb : 1 ≤ b ∧ b ≤ 9) (hc : 1 ≤ c ∧ c ≤ 20) : 0 ≤ b * (c - 1) ∧ b * (c - 1) ≤ 171 := by
  have := L_mulb (x := b) (y := c - 1) (X := 9) (Y := 19) (by omega) (by omega) (by omega) (by omega)
  omega

theorem L_strip {a b c : Int} (ha : -128 ≤ a ∧ a ≤ 127) (hb : -128 ≤ b ∧ b ≤ 127) (hc : -128 ≤ c ∧ c ≤ 127) : spec_l05Ok.f a b c = some (decide (D_strip a b c)) := by
  unfold spec_l05Ok.f
  rw [L_w (x := a) (by omega), L_w (x := b) (by omega), L_w (x := c) (by omega)]
  simp only [L_specThirds, L_in, Option.bind_some, decide_eq_true_eq]
  unfold D_strip
  by_cases h1 : 0 ≤ a ∧ a ≤ 36
  · by_cases h2 : 1 ≤ b ∧ b ≤ 9
    · by_cases h3 : 1 ≤ c ∧ c ≤ 20
      · have := L_stripb h2 h3
        rw [if_pos h1, if_pos h2, if_pos h3, L_w (x := c - 1) (by omega), L_w (x := b * (c - 1)) (by omega), L_w (x := a + b * (c - 1)) (by omega)]
        exact L_sd (by omega)
      · rw [if_pos h1, if_pos h2, if_neg h3]; exact L_sf (by omega)
    · rw [if_pos h1, if_neg h2]; exact L_sf (by omega)
  · rw [if_neg h1]; exact L_sf (by omega)

theorem L_rdP {l : List S66} {i : Int} (h0 : 0 ≤ i) (h : i < l.length) : ∃ hi : i.toNat < l.length, rd_T66 l i = l[i.toNat]'hi :=
  ⟨by omega, by unfold rd_T66; rw [List.getD_eq_getElem?_getD, List.getElem?_eq_getElem (by omega)]; rfl⟩

theorem L_p16 {l : List S66} (h : D_i16s l) {i : Int} (h0 : 0 ≤ i) (h1 : i < l.length) : (-32768 ≤ D_px l i ∧ D_px l i ≤ 32767) ∧ -32768 ≤ D_py l i ∧ D_py l i ≤ 32767 := by
  obtain ⟨hi, e⟩ := L_rdP (l := l) (i := i) h0 h1
  unfold D_px D_py
  rw [e]
  exact h _ (List.getElem_mem hi)

theorem L_specDensity (a : Int) : spec_l02Density.f a = some (decide (0 ≤ a ∧ a ≤ 400)) := by unfold spec_l02Density.f; rw [L_in]; rfl

theorem L_specPoint {x y : Int} (hx : -32768 ≤ x ∧ x ≤ 32767) (hy : -32768 ≤ y ∧ y ≤ 32767) : spec_l02Point.f x y = some (decide ((-200 ≤ x ∧ x ≤ 200) ∧ 0 ≤ y ∧ y ≤ 400)) := by
  unfold spec_l02Point.f spec_l02Place.f
  rw [L_w (x := x) (by omega), L_w (x := y) (by omega), L_in, L_specDensity]
  simp only [Option.bind_some, decide_eq_true_eq]
  split
  · exact L_sd (by omega)
  · exact L_sf (by omega)

theorem L_specShapeLoop (l : List S66) (h16 : D_i16s l) (hn : l.length ≤ 140737488351232) (d : Nat) : ∀ (k : Nat) (i : Int), 0 ≤ i → i + d = l.length → d < k → spec_l02Shape.l0 k l i = some (D_shapeFrom l d i) := by
  induction d with
  | zero =>
    intro k i h0 hd hk
    obtain ⟨k, rfl⟩ : ∃ m, k = m + 1 := ⟨k - 1, by omega⟩
    simp only [spec_l02Shape.l0, D_shapeFrom]; rw [if_neg (by omega)]
  | succ d ih =>
    intro k i h0 hd hk
    obtain ⟨k, rfl⟩ : ∃ m, k = m + 1 := ⟨k - 1, by omega⟩
    have hp := L_p16 h16 h0 (show i < l.length by omega)
    have ih' := ih k (i + 1) (by omega) (by omega) (by omega)
    simp only [spec_l02Shape.l0, D_shapeFrom]
    rw [if_pos (by omega), if_pos h0, L_w (x := i + 1) (by omega), L_w (x := i - 1) (by omega)]
    change (spec_l02Point.f (D_px l i) (D_py l i)).bind _ = _
    rw [L_specPoint hp.1 hp.2]
    simp only [Option.bind_some, decide_eq_true_eq]
    by_cases h1 : (-200 ≤ D_px l i ∧ D_px l i ≤ 200) ∧ 0 ≤ D_py l i ∧ D_py l i ≤ 400
    · rw [if_pos h1, if_pos h1]
      by_cases h2 : i > 0
      · rw [if_pos h2, if_pos h2, if_pos (by omega), if_pos (by omega)]
        change (if D_px l i ≤ D_px l (i - 1) then _ else (if D_py l i < D_py l (i - 1) then _ else _)) = _
        by_cases h3 : D_px l i ≤ D_px l (i - 1)
        · rw [if_pos h3, if_pos h3]
        · rw [if_neg h3, if_neg h3]
          by_cases h4 : D_py l i < D_py l (i - 1)
          · rw [if_pos h4, if_pos h4]
          · rw [if_neg h4, if_neg h4, ih']
      · rw [if_neg h2, if_neg h2, ih']
    · rw [if_neg h1, if_neg h1]

theorem L_specCurve (l : List S66) (h16 : D_i16s l) (hn : l.length ≤ 140737488351232) {k : Nat} (hk : l.length < k) : spec_l02Ok.f k l = some (D_curve l) := by
  unfold spec_l02Ok.f spec_l02Shape.f D_curve
  rw [L_specShapeLoop l h16 hn l.length k 0 (by omega) (by omega) hk]
  simp only [Option.bind_some]
  show _ = some (D_shape l && _)
  unfold D_shape
  split
  · rename_i h; rw [h]; rfl
  · rename_i h; rw [Bool.eq_false_iff.mpr h]; rfl

theorem L_specLightsFrom {a b c : Int} (h : D_strip a b c) (d : Nat) : ∀ (k : Nat) (l : List Int) (i : Int), 0 ≤ i → i + d = c → l.length ≤ 100 - d → d < k → spec_l05Lights.l0 k l i a b c = some (l ++ D_lightsFrom a b d i) := by
  have hh := h
  unfold D_strip at hh
  induction d with
  | zero =>
    intro k l i h0 hd hl hk
    obtain ⟨k, rfl⟩ : ∃ m, k = m + 1 := ⟨k - 1, by omega⟩
    simp only [spec_l05Lights.l0, D_lightsFrom]
    rw [L_w (x := c) (by omega), if_neg (by omega)]; simp
  | succ d ih =>
    intro k l i h0 hd hl hk
    obtain ⟨k, rfl⟩ : ∃ m, k = m + 1 := ⟨k - 1, by omega⟩
    have hm := L_mulb (x := i) (y := b) (X := 20) (Y := 9) (by omega) (by omega) (by omega) (by omega)
    simp only [spec_l05Lights.l0, D_lightsFrom]
    rw [L_w (x := c) (by omega), if_pos (by omega), if_pos (by omega), L_w (x := a) (by omega), L_w (x := b) (by omega), L_w (x := i * b) (by omega), L_w (x := a + i * b) (by omega), L_w (x := i + 1) (by omega),
      ih k _ (i + 1) (by omega) (by omega) (by simp; omega) (by omega)]
    simp

theorem L_specLights {a b c : Int} (h : D_strip a b c) {k : Nat} (hk : 21 ≤ k) : spec_l05Lights.f k a b c = some (D_lights a b c) := by
  have hh := h
  unfold D_strip at hh
  unfold spec_l05Lights.f
  rw [L_specLightsFrom h c.toNat k [] 0 (by omega) (by omega) (Nat.zero_le _) (by omega)]; rfl

theorem L_tmvAll : ∀ n : Nat, n < 37 → 1000 ≤ tmv n ∧ tmv n ≤ 4096000 := by decide

theorem L_tmv {k : Int} (h : 0 ≤ k ∧ k ≤ 36) : 1000 ≤ tmv k ∧ tmv k ≤ 4096000 := by
  obtain ⟨n, rfl⟩ : ∃ n : Nat, k = n := ⟨k.toNat, by omega⟩
  exact L_tmvAll n (by omega)

theorem L_specTimeAll : ∀ n : Nat, n < 37 → spec_l01Time.f n = some (tmv n) := by decide +kernel

theorem L_specTime {k : Int} (h : 0 ≤ k ∧ k ≤ 36) : spec_l01Time.f k = some (tmv k) := by
  obtain ⟨n, rfl⟩ : ∃ n : Nat, k = n := ⟨k.toNat, by omega⟩
  exact L_specTimeAll n (by omega)

theorem L_specInFrom (s : Int) (d : Nat) : ∀ (k : Nat) (i : Int), -1 ≤ i → i + d = 36 → d < k → spec_l01In.l0 k s i = some (D_inFrom s d i) := by
  induction d with
  | zero =>
    intro k i h0 hd hk
    obtain ⟨k, rfl⟩ : ∃ m, k = m + 1 := ⟨k - 1, by omega⟩
    simp only [spec_l01In.l0, D_inFrom]; rw [if_neg (by omega)]
  | succ d ih =>
    intro k i h0 hd hk
    obtain ⟨k, rfl⟩ : ∃ m, k = m + 1 := ⟨k - 1, by omega⟩
    simp only [spec_l01In.l0, D_inFrom]
    rw [if_pos (by omega), L_w (x := i + 1) (by omega), L_specTime (by omega)]
    simp only [Option.bind_some]
    by_cases h : tmv (i + 1) ≤ s
    · rw [if_pos h, if_pos h]; exact ih k (i + 1) (by omega) (by omega) (by omega)
    · rw [if_neg h, if_neg h]

theorem L_specIn (s : Int) {k : Nat} (hk : 38 ≤ k) : spec_l01In.f k s = some (D_in s) :=
  L_specInFrom s 37 k (-1) (by omega) (by omega) (by omega)

theorem L_specCover (n : Nat) (hlen : n ≤ 20) (d : Nat) : ∀ (k : Nat) (L : List Int) (s i : Int), L.length = n → (∀ j : Nat, i.toNat ≤ j → ∀ h : j < L.length, 0 ≤ L[j] ∧ L[j] ≤ 36) → 0 ≤ i → i + d = n → 0 ≤ s → s ≤ 4096000 * i → d + 40 ≤ k →
    spec_l05Covered.l0 k L s i = some (L.take i.toNat ++ D_coverFrom (L.drop i.toNat) s) := by
  induction d with
  | zero =>
    intro k L s i hl hL h0 hd hs hs2 hk
    obtain ⟨k, rfl⟩ : ∃ m, k = m + 1 := ⟨k - 1, by omega⟩
    simp only [spec_l05Covered.l0]
    rw [if_neg (by omega), List.drop_eq_nil_of_le (by omega), List.take_of_length_le (by omega)]
    simp [D_coverFrom]
  | succ d ih =>
    intro k L s i hl hL h0 hd hs hs2 hk
    obtain ⟨k, rfl⟩ : ∃ m, k = m + 1 := ⟨k - 1, by omega⟩
    have hi : i.toNat < L.length := by omega
    have hr : rd L i = L[i.toNat]'hi := by unfold rd; rw [List.getD_eq_getElem?_getD, List.getElem?_eq_getElem hi]; rfl
    have hx := hL i.toNat (Nat.le_refl _) hi
    rw [← hr] at hx
    have ht := L_tmv hx
    simp only [spec_l05Covered.l0]
    rw [if_pos (by omega), if_pos h0, L_specTime hx]
    simp only [Option.bind_some]
    rw [L_w (x := s + tmv (rd L i)) (by omega), L_specIn _ (by omega)]
    simp only [Option.bind_some]
    rw [L_w (x := i + 1) (by omega), ih k _ _ (i + 1) (by simpa using hl) (fun j hj h => by
        rw [List.length_set] at h
        rw [List.getElem_set_ne (by omega)]
        exact hL j (by omega) h) (by omega) (by omega) (by omega) (by omega) (by omega)]
    rw [show (i + 1).toNat = i.toNat + 1 by omega, List.drop_set_of_lt (by omega), List.drop_eq_getElem_cons hi, ← hr, List.take_succ_eq_append_getElem (by simpa using hi)]
    simp [D_coverFrom, List.take_set_of_le]

theorem L_implLightsFrom {a b c : Int} (h : D_strip a b c) (d : Nat) : ∀ (k : Nat) (l : List Int) (i : Int), 0 ≤ i → i + d = c → l.length ≤ 100 - d → d < k → impl_Strip_lights.l0 k l c i a b c = some (l ++ D_lightsFrom a b d i) := by
  have hh := h
  unfold D_strip at hh
  induction d with
  | zero =>
    intro k l i h0 hd hl hk
    obtain ⟨k, rfl⟩ : ∃ m, k = m + 1 := ⟨k - 1, by omega⟩
    simp only [impl_Strip_lights.l0, D_lightsFrom]
    rw [if_neg (by omega)]; simp
  | succ d ih =>
    intro k l i h0 hd hl hk
    obtain ⟨k, rfl⟩ : ∃ m, k = m + 1 := ⟨k - 1, by omega⟩
    have hm := L_mulb (x := i) (y := b) (X := 20) (Y := 9) (by omega) (by omega) (by omega) (by omega)
    have hc : b * i = i * b := Int.mul_comm _ _
    simp only [impl_Strip_lights.l0, D_lightsFrom, impl_Strip_light.f, Option.bind_some]
    rw [if_pos (by omega), if_pos (by omega), L_w (x := a) (by omega), L_w (x := b) (by omega), hc, L_w (x := i * b) (by omega), L_w (x := a + i * b) (by omega), L_w (x := i + 1) (by omega),
      ih k _ (i + 1) (by omega) (by omega) (by simp; omega) (by omega)]
    simp

theorem L_implLights {a b c : Int} (h : D_strip a b c) {k : Nat} (hk : 21 ≤ k) : impl_Strip_lights.f k a b c = some (D_lights a b c) := by
  have hh := h
  unfold D_strip at hh
  unfold impl_Strip_lights.f
  rw [L_w (x := c) (by omega), L_implLightsFrom h c.toNat k [] 0 (by omega) (by omega) (Nat.zero_le _) (by omega)]; rfl

theorem L_timeOf {k : Int} (h : 0 ≤ k ∧ k ≤ 36) : impl_timeOf.f k = some (tmv k) := by
  unfold impl_timeOf.f; rw [if_pos h.1, if_pos h.2]

theorem L_within (a b c : Int) : impl_within.f a b c = some (decide (b ≤ a ∧ a ≤ c)) := by
  unfold impl_within.f
  split
  · exact L_sd (by omega)
  · exact L_sf (by omega)

theorem L_tmvMonoAll : ∀ i : Nat, i < 37 → ∀ j : Nat, j < 37 → i ≤ j → tmv i ≤ tmv j := by decide +kernel

theorem L_tmvMono {i j : Int} (h0 : 0 ≤ i) (h : i ≤ j) (h1 : j ≤ 36) : tmv i ≤ tmv j := by
  obtain ⟨n, rfl⟩ : ∃ n : Nat, i = n := ⟨i.toNat, by omega⟩
  obtain ⟨m, rfl⟩ : ∃ m : Nat, j = m := ⟨j.toNat, by omega⟩
  exact L_tmvMonoAll n (by omega) m (by omega) (by omega)

theorem L_inUnique {s k : Int} (h0 : -1 ≤ k ∧ k ≤ 36) (h1 : 0 ≤ k → tmv k ≤ s) (h2 : k < 36 → s < tmv (k + 1)) : k = D_in s := by
  obtain ⟨a, b, c, d⟩ := L_inSpec s
  rcases Int.lt_trichotomy k (D_in s) with h | h | h
  · have e := L_tmvMono (i := k + 1) (j := D_in s) (by omega) (by omega) b
    have := h2 (by omega)
    have := c (by omega)
    omega
  · exact h
  · have e := L_tmvMono (i := D_in s + 1) (j := k) (by omega) (by omega) h0.2
    have := d (by omega)
    have := h1 (by omega)
    omega

theorem L_thirdsInDown (s : Int) (hs : 1000 ≤ s) (d : Nat) : ∀ (k : Nat) (i : Int), i = d → i ≤ 36 → d < k → (i < 36 → s < tmv (i + 1)) → impl_ThirdsIn.l0 k s i = some (D_in s, 0) := by
  induction d with
  | zero =>
    intro k i hi h36 hk h
    obtain ⟨k, rfl⟩ : ∃ m, k = m + 1 := ⟨k - 1, by omega⟩
    obtain rfl : i = 0 := by omega
    have h0 : tmv 0 = 1000 := by decide
    simp only [impl_ThirdsIn.l0]
    rw [L_timeOf (by omega)]
    simp only [Option.bind_some]
    rw [if_neg (by omega), L_inUnique (s := s) (k := 0) (by omega) (fun _ => by omega) h]
  | succ d ih =>
    intro k i hi h36 hk h
    obtain ⟨k, rfl⟩ : ∃ m, k = m + 1 := ⟨k - 1, by omega⟩
    simp only [impl_ThirdsIn.l0]
    rw [L_timeOf (by omega)]
    simp only [Option.bind_some]
    by_cases hc : tmv i > s
    · rw [if_pos hc, L_w (x := i - 1) (by omega)]
      exact ih k (i - 1) (by omega) (by omega) (by omega) (fun _ => by rw [show i - 1 + 1 = i by omega]; omega)
    · rw [if_neg hc, L_inUnique (s := s) (k := i) (by omega) (fun _ => by omega) h]

theorem L_thirdsIn {s : Int} (hs : 1000 ≤ s ∧ s ≤ 100000000) {k : Nat} (hk : 37 ≤ k) : impl_ThirdsIn.f k s = some (D_in s, 0) := by
  unfold impl_ThirdsIn.f impl_areMilliseconds.f
  rw [L_within]
  simp only [Option.bind_some, decide_eq_true_eq]
  rw [if_pos (by omega), L_timeOf (by omega)]
  simp only [Option.bind_some]
  rw [if_neg (by have : tmv 0 = 1000 := by decide
                 omega)]
  exact L_thirdsInDown s hs.1 36 k 36 rfl (by omega) (by omega) (fun h => by omega)


theorem L_implCover (L : List Int) (hL : ∀ x ∈ L, 0 ≤ x ∧ x ≤ 36) (hlen : L.length ≤ 20) (d : Nat) : ∀ (k : Nat) (out : List Int) (s i : Int), 0 ≤ i → i + d = L.length → 0 ≤ s → s ≤ 4096000 * i → out.length ≤ i → d + 40 ≤ k →
    impl_Strip_covered.l0 k out s L (L.length : Int) i = some (out ++ D_coverFrom (L.drop i.toNat) s) := by
  induction d with
  | zero =>
    intro k out s i h0 hd hs hs2 ho hk
    obtain ⟨k, rfl⟩ : ∃ m, k = m + 1 := ⟨k - 1, by omega⟩
    simp only [impl_Strip_covered.l0]
    rw [if_neg (by omega), List.drop_eq_nil_of_le (by omega)]
    simp [D_coverFrom]
  | succ d ih =>
    intro k out s i h0 hd hs hs2 ho hk
    obtain ⟨k, rfl⟩ : ∃ m, k = m + 1 := ⟨k - 1, by omega⟩
    have hi : i.toNat < L.length := by omega
    have hr : rd L i = L[i.toNat]'hi := by unfold rd; rw [List.getD_eq_getElem?_getD, List.getElem?_eq_getElem hi]; rfl
    have hx := hL _ (List.getElem_mem hi)
    rw [← hr] at hx
    have ht := L_tmv hx
    simp only [impl_Strip_covered.l0]
    rw [if_pos (by omega), if_pos h0, if_pos (by omega), L_timeOf hx]
    simp only [Option.bind_some]
    rw [L_w (x := s + tmv (rd L i)) (by omega), L_thirdsIn (by omega) (by omega)]
    simp only [Option.bind_some]
    rw [if_pos (by omega), L_w (x := i + 1) (by omega), ih k _ _ (i + 1) (by omega) (by omega) (by omega) (by omega) (by simp; omega) (by omega),
      List.drop_eq_getElem_cons hi, show (i + 1).toNat = i.toNat + 1 by omega, ← hr]
    simp [D_coverFrom]

theorem L_covered {a b c : Int} (ha : -128 ≤ a ∧ a ≤ 127) (hb : -128 ≤ b ∧ b ≤ 127) (hc : -128 ≤ c ∧ c ≤ 127) (h : D_strip a b c) {k : Nat} (hk : 61 ≤ k) :
    spec_l05Covered.f k a b c = some (D_coverFrom (D_lights a b c) 0) ∧ impl_Strip_covered.f k a b c = some (D_coverFrom (D_lights a b c) 0) := by
  have hl := L_lightsLen h
  have hr := L_lightsRange h
  constructor
  · unfold spec_l05Covered.f
    rw [L_specLights h (by omega)]
    simp only [Option.bind_some]
    rw [L_specCover (D_lights a b c).length hl (D_lights a b c).length k _ 0 0 rfl (fun j _ h => hr _ (List.getElem_mem h)) (by omega) (by omega) (by omega) (by omega) (by omega)]
    simp
  · unfold impl_Strip_covered.f
    rw [L_implLights h (by omega)]
    simp only [Option.bind_some]
    rw [L_implCover (D_lights a b c) hr hl (D_lights a b c).length k [] 0 0 (by omega) (by omega) (by omega) (by omega) (by simp) (by omega)]
    simp


theorem L_areThirds (a : Int) : impl_areThirds.f a = some (decide (0 ≤ a ∧ a ≤ 36)) := by
  unfold impl_areThirds.f; rw [L_within]; rfl

theorem L_implStrip {a b c : Int} (ha : -128 ≤ a ∧ a ≤ 127) (hb : -128 ≤ b ∧ b ≤ 127) (hc : -128 ≤ c ∧ c ≤ 127) : impl_ValidStrip.f a b c = some (decide (D_strip a b c)) := by
  unfold impl_ValidStrip.f impl_Strip_light.f
  rw [L_w (x := a) (by omega), L_w (x := b) (by omega), L_w (x := c) (by omega)]
  simp only [L_areThirds, L_within, Option.bind_some, decide_eq_true_eq]
  unfold D_strip
  by_cases h1 : 0 ≤ a ∧ a ≤ 36
  · by_cases h2 : 1 ≤ b ∧ b ≤ 9
    · by_cases h3 : 1 ≤ c ∧ c ≤ 20
      · have := L_stripb h2 h3
        rw [if_pos h1, if_pos h2, if_pos h3, L_w (x := c - 1) (by omega), L_w (x := b * (c - 1)) (by omega), L_w (x := a + b * (c - 1)) (by omega)]
        exact L_sd (by omega)
      · rw [if_pos h1, if_pos h2, if_neg h3]; exact L_sf (by omega)
    · rw [if_pos h1, if_neg h2]; exact L_sf (by omega)
  · rw [if_neg h1]; exact L_sf (by omega)

theorem L_isPlace (x : Int) : impl_isPlace.f x = some (decide (-200 ≤ x ∧ x ≤ 200)) := by unfold impl_isPlace.f; rw [L_within]; rfl

theorem L_isDensity (a : Int) : impl_isDensity.f a = some (decide (0 ≤ a ∧ a ≤ 400)) := by unfold impl_isDensity.f; rw [L_within]; rfl

theorem L_implPoint {x y : Int} (hx : -32768 ≤ x ∧ x ≤ 32767) (hy : -32768 ≤ y ∧ y ≤ 32767) : impl_isPoint.f x y = some (decide ((-200 ≤ x ∧ x ≤ 200) ∧ 0 ≤ y ∧ y ≤ 400)) := by
  unfold impl_isPoint.f
  rw [L_w (x := x) (by omega), L_w (x := y) (by omega), L_isPlace, L_isDensity]
  simp only [Option.bind_some, decide_eq_true_eq]
  split
  · exact L_sd (by omega)
  · exact L_sf (by omega)

theorem L_implShapeLoop (l : List S66) (h16 : D_i16s l) (hn : l.length ≤ 140737488351232) (d : Nat) : ∀ (k : Nat) (i : Int), 0 ≤ i → i + d = l.length → d < k → impl_isCurve.l0 k l l (l.length : Int) i = some (D_shapeFrom l d i) := by
  induction d with
  | zero =>
    intro k i h0 hd hk
    obtain ⟨k, rfl⟩ : ∃ m, k = m + 1 := ⟨k - 1, by omega⟩
    simp only [impl_isCurve.l0, D_shapeFrom]; rw [if_neg (by omega)]
  | succ d ih =>
    intro k i h0 hd hk
    obtain ⟨k, rfl⟩ : ∃ m, k = m + 1 := ⟨k - 1, by omega⟩
    have hp := L_p16 h16 h0 (show i < l.length by omega)
    have ih' := ih k (i + 1) (by omega) (by omega) (by omega)
    simp only [impl_isCurve.l0, D_shapeFrom]
    rw [if_pos (by omega), if_pos h0, if_pos (by omega), L_w (x := i + 1) (by omega), L_w (x := i - 1) (by omega)]
    change (impl_isPoint.f (D_px l i) (D_py l i)).bind _ = _
    rw [L_implPoint hp.1 hp.2]
    simp only [Option.bind_some, decide_eq_true_eq]
    by_cases h1 : (-200 ≤ D_px l i ∧ D_px l i ≤ 200) ∧ 0 ≤ D_py l i ∧ D_py l i ≤ 400
    · rw [if_pos h1, if_pos h1]
      by_cases h2 : i > 0
      · rw [if_pos h2, if_pos h2, if_pos (by omega), if_pos (by omega)]
        change (if D_px l (i - 1) ≥ D_px l i then _ else (if D_py l (i - 1) > D_py l i then _ else _)) = _
        by_cases h3 : D_px l i ≤ D_px l (i - 1)
        · rw [if_pos (by omega), if_pos h3]
        · rw [if_neg (by omega), if_neg h3]
          by_cases h4 : D_py l i < D_py l (i - 1)
          · rw [if_pos (by omega), if_pos h4]
          · rw [if_neg (by omega), if_neg h4, ih']
      · rw [if_neg h2, if_neg h2, ih']
    · rw [if_neg h1, if_neg h1]

theorem L_implCurve (l : List S66) (h16 : D_i16s l) (hn : l.length ≤ 140737488351232) {k : Nat} (hk : l.length < k) : impl_ValidCurve.f k l = some (D_curve l) := by
  unfold impl_ValidCurve.f impl_isCurve.f D_curve
  rw [L_implShapeLoop l h16 hn l.length k 0 (by omega) (by omega) hk]
  simp only [Option.bind_some]
  show _ = some (D_shape l && _)
  unfold D_shape
  split
  · rename_i h; rw [h]; rfl
  · rename_i h; rw [Bool.eq_false_iff.mpr h]; rfl

theorem L_implBandsLoop {l : List S66} (h : D_curve l = true) {den : Int} (hd : 0 ≤ den ∧ den ≤ 400) (L : List Int) (hL : ∀ x ∈ L, -1 ≤ x ∧ x ≤ 36) (hlen : L.length ≤ 20) {K : Nat} (hK : 13 ≤ K) (d : Nat) : ∀ (n : Nat) (o : List Int) (i : Int), 0 ≤ i → i + d = L.length → d < n → o.length ≤ 100 - d →
    impl_bands.l0 K l den L n o i = some (o ++ (L.drop i.toNat).map (D_dark l den)) := by
  induction d with
  | zero =>
    intro n o i h0 hi hn ho
    obtain ⟨n, rfl⟩ : ∃ m, n = m + 1 := ⟨n - 1, by omega⟩
    simp only [impl_bands.l0]
    rw [if_neg (by omega), List.drop_eq_nil_of_le (by omega)]
    simp
  | succ d ih =>
    intro n o i h0 hi hn ho
    obtain ⟨n, rfl⟩ : ∃ m, n = m + 1 := ⟨n - 1, by omega⟩
    obtain ⟨hlt, e⟩ := L_rdGet (l := L) (i := i) h0 (by omega)
    have hr := hL _ (List.getElem_mem hlt)
    rw [← e] at hr
    simp only [impl_bands.l0]
    rw [if_pos (by omega), (L_dark h hd (by omega) hK).2.1]
    simp only [Option.bind_some]
    rw [if_pos (by omega), L_w (x := i + 1) (by omega), ih n _ (i + 1) (by omega) (by omega) (by omega) (by simp; omega), show (i + 1).toNat = i.toNat + 1 by omega, List.drop_eq_getElem_cons hlt, ← e]
    simp

theorem L_bandsOf {a b c : Int} (ha : -128 ≤ a ∧ a ≤ 127) (hb : -128 ≤ b ∧ b ≤ 127) (hc : -128 ≤ c ∧ c ≤ 127) (l : List S66) (h16 : D_i16s l) (hn : l.length ≤ 140737488351232) (den : Int) (cov : Bool) :
    ∃ (R : List Int) (m : Int), R.length ≤ 20 ∧ (∀ k, l.length + 80 ≤ k → spec_l05Bands.f k a b c l den cov = some (R, m)) ∧ (∀ K, l.length + 80 ≤ K → impl_bands.fl K (if cov = true then impl_Strip_covered.f K a b c else impl_Strip_lights.f K a b c) a b c l den = some (R, m)) := by
  by_cases hs : D_strip a b c
  · by_cases hcv : D_curve l = true
    · by_cases hd : 0 ≤ den ∧ den ≤ 400
      · obtain ⟨L, hL⟩ : ∃ L, L = if cov = true then D_coverFrom (D_lights a b c) 0 else D_lights a b c := ⟨_, rfl⟩
        have hlen : L.length ≤ 20 := by
          rw [hL]; split
          · rw [L_coverLen]; exact L_lightsLen hs
          · exact L_lightsLen hs
        have hr : ∀ x ∈ L, -1 ≤ x ∧ x ≤ 36 := by
          intro x hx
          rw [hL] at hx
          split at hx
          · exact L_coverRange _ _ x hx
          · have := L_lightsRange hs x hx; omega
        refine ⟨L.map (D_dark l den), 0, by simpa using hlen, fun k hk => ?_, fun K hK => ?_⟩
        · have hj : spec_l05Bands.j1 (k - 1) l den L = some (L.map (D_dark l den), 0) := by
            obtain ⟨k, rfl⟩ : ∃ m, k = m + 2 := ⟨k - 2, by omega⟩
            simp only [show k + 2 - 1 = k + 1 by omega, spec_l05Bands.j1]
            rw [L_specBandsLoop hcv hd L.length hlen L.length k L 0 rfl (fun j _ h => hr _ (List.getElem_mem h)) (by omega) (by omega) (by omega)]
            simp
          obtain ⟨k, rfl⟩ : ∃ m, k = m + 1 := ⟨k - 1, by omega⟩
          unfold spec_l05Bands.f
          rw [L_strip ha hb hc, decide_eq_true hs, L_specCurve l h16 hn (by omega), hcv]
          simp only [Option.bind_some, if_true, Bool.not_true, spec_l05Bands.j0, Bool.false_eq_true, if_false]
          rw [L_specDensity, decide_eq_true hd]
          simp only [Option.bind_some, if_true]
          rw [L_specLights hs (by omega)]
          simp only [Option.bind_some]
          cases cov
          · simp only [Bool.false_eq_true, if_false] at hL ⊢
            rw [← hL]; exact hj
          · simp only [if_true] at hL ⊢
            rw [(L_covered ha hb hc hs (by omega)).1]
            simp only [Option.bind_some]
            rw [← hL]; exact hj
        · unfold impl_bands.fl
          rw [L_implStrip ha hb hc, decide_eq_true hs, L_implCurve l h16 hn (by omega), hcv, L_isDensity, decide_eq_true hd]
          simp only [Option.bind_some, if_true]
          have hf : (if cov = true then impl_Strip_covered.f K a b c else impl_Strip_lights.f K a b c) = some L := by
            rw [hL]; split
            · exact (L_covered ha hb hc hs (by omega)).2
            · exact L_implLights hs (by omega)
          rw [hf]
          simp only [Option.bind_some]
          rw [L_implBandsLoop hcv hd L hr hlen (by omega) L.length (L.length + 1) [] 0 (by omega) (by omega) (by omega) (by simp)]
          simp
      · refine ⟨[], 2, by simp, fun k hk => ?_, fun K hK => ?_⟩
        · obtain ⟨k, rfl⟩ : ∃ m, k = m + 1 := ⟨k - 1, by omega⟩
          unfold spec_l05Bands.f
          rw [L_strip ha hb hc, decide_eq_true hs, L_specCurve l h16 hn (by omega), hcv]
          simp only [Option.bind_some, if_true, Bool.not_true, spec_l05Bands.j0, Bool.false_eq_true, if_false]
          rw [L_specDensity, decide_eq_false hd]
          simp
        · unfold impl_bands.fl
          rw [L_implStrip ha hb hc, decide_eq_true hs, L_implCurve l h16 hn (by omega), hcv, L_isDensity, decide_eq_false hd]
          simp
    · rw [Bool.not_eq_true] at hcv
      refine ⟨[], 1, by simp, fun k hk => ?_, fun K hK => ?_⟩
      · obtain ⟨k, rfl⟩ : ∃ m, k = m + 1 := ⟨k - 1, by omega⟩
        unfold spec_l05Bands.f
        rw [L_strip ha hb hc, decide_eq_true hs, L_specCurve l h16 hn (by omega), hcv]
        simp [spec_l05Bands.j0]
      · unfold impl_bands.fl
        rw [L_implStrip ha hb hc, decide_eq_true hs, L_implCurve l h16 hn (by omega), hcv]
        simp
  · refine ⟨[], 1, by simp, fun k hk => ?_, fun K hK => ?_⟩
    · obtain ⟨k, rfl⟩ : ∃ m, k = m + 1 := ⟨k - 1, by omega⟩
      unfold spec_l05Bands.f
      rw [L_strip ha hb hc, decide_eq_false hs]
      simp [spec_l05Bands.j0]
    · unfold impl_bands.fl
      rw [L_implStrip ha hb hc, decide_eq_false hs]
      simp


theorem L_markI (n : Nat) (hn : n ≤ 140737488351232) (d : Nat) : ∀ (k : Nat) (l : List Int) (v i : Int), l.length = n → 0 ≤ i → i + d = n → d < k → 0 ≤ v → v ≤ 281474976702464 + i →
    ∃ l', laws_markInt64S.l0 k l v i = some (v + d, l') ∧ l'.length = n ∧ (∀ j : Int, 0 ≤ j → j < i → rd l' j = rd l j) ∧ (∀ j : Int, i ≤ j → j < n → rd l' j = v + (j - i)) := by
  induction d with
  | zero =>
    intro k l v i hl h0 hd hk hv hv2
    obtain ⟨k, rfl⟩ : ∃ m, k = m + 1 := ⟨k - 1, by omega⟩
    refine ⟨l, ?_, hl, fun _ _ _ => rfl, fun j h1 h2 => by omega⟩
    simp only [laws_markInt64S.l0]; rw [if_neg (by omega)]; simp
  | succ d ih =>
    intro k l v i hl h0 hd hk hv hv2
    obtain ⟨k, rfl⟩ : ∃ m, k = m + 1 := ⟨k - 1, by omega⟩
    obtain ⟨l', e, hl', h1, h2⟩ := ih k (l.set i.toNat v) (v + 1) (i + 1) (by simpa using hl) (by omega) (by omega) (by omega) (by omega) (by omega)
    refine ⟨l', ?_, hl', fun j hj hj2 => ?_, fun j hj hj2 => ?_⟩
    · simp only [laws_markInt64S.l0]; rw [if_pos (by omega), if_pos h0, L_w (x := v + 1) (by omega), L_w (x := i + 1) (by omega), e]
      congr 2; omega
    · rw [h1 j hj (by omega)]
      unfold rd
      rw [List.getD_eq_getElem?_getD, List.getD_eq_getElem?_getD, List.getElem?_set_ne (by omega)]
    · by_cases e2 : j = i
      · subst e2
        rw [h1 j (by omega) (by omega)]
        unfold rd
        rw [List.getD_eq_getElem?_getD, List.getElem?_set_self (by omega)]
        simp
      · rw [h2 j (by omega) hj2]; omega

theorem L_heldI (n : Nat) (hn : n ≤ 140737488351232) (l : List Int) (hl : l.length = n) (d : Nat) : ∀ (k : Nat) (v i : Int), 0 ≤ i → i + d = n → d < k → 0 ≤ v → v ≤ 281474976702464 + i → (∀ j : Int, i ≤ j → j < n → rd l j = v + (j - i)) →
    laws_heldInt64S.l0 k l v i = some (v + d) := by
  induction d with
  | zero =>
    intro k v i h0 hd hk hv hv2 h
    obtain ⟨k, rfl⟩ : ∃ m, k = m + 1 := ⟨k - 1, by omega⟩
    simp only [laws_heldInt64S.l0]; rw [if_neg (by omega)]; simp
  | succ d ih =>
    intro k v i h0 hd hk hv hv2 h
    obtain ⟨k, rfl⟩ : ∃ m, k = m + 1 := ⟨k - 1, by omega⟩
    have h1 := h i (by omega) (by omega)
    simp only [laws_heldInt64S.l0]; rw [if_pos (by omega), if_pos h0, if_pos (by omega), L_w (x := v + 1) (by omega), L_w (x := i + 1) (by omega),
      ih k (v + 1) (i + 1) (by omega) (by omega) (by omega) (by omega) (by omega) (fun j hj hj2 => by rw [h j (by omega) hj2]; omega)]
    congr 1; omega

theorem L_markHeld (l : List Int) (hn : l.length ≤ 140737488351232) : ∃ l', (∀ k, l.length < k → laws_markInt64S.f k l 1 = some (1 + (l.length : Int), l')) ∧ (∀ k, l.length < k → laws_heldInt64S.f k l' 1 = some (1 + (l.length : Int))) := by
  obtain ⟨l', e, hl', _, h2⟩ := L_markI l.length hn l.length (l.length + 1) l 1 0 rfl (by omega) (by omega) (by omega) (by omega) (by omega)
  refine ⟨l', fun k hk => ?_, fun k hk => ?_⟩
  · obtain ⟨l2, e2, hl2, _, h3⟩ := L_markI l.length hn l.length k l 1 0 rfl (by omega) (by omega) hk (by omega) (by omega)
    unfold laws_markInt64S.f
    rw [e2]
    have : l2 = l' := by
      apply List.ext_getElem (by omega)
      intro j hj hj'
      have a := h3 j (by omega) (by omega)
      have b := h2 j (by omega) (by omega)
      unfold rd at a b
      rw [List.getD_eq_getElem?_getD] at a b
      simp only [Int.toNat_natCast] at a b
      rw [List.getElem?_eq_getElem hj] at a
      rw [List.getElem?_eq_getElem hj'] at b
      simp at a b
      omega
    rw [this]
  · unfold laws_heldInt64S.f
    exact L_heldI l.length hn l' hl' l.length k 1 0 (by omega) (by omega) hk (by omega) (by omega) h2

theorem L_szCurve (l : List S68) (a : Int) (ha : 0 ≤ a ∧ a ≤ 1048576) (h : l.length * 4 ≤ 140737488351232) : laws_szCurve.f l a = some (if a < (l.length : Int) then (-1 : Int) else a - (l.length : Int)) := by
  unfold laws_szCurve.f; rw [L_w (by omega)]
  by_cases h : a < (l.length : Int)
  · rw [if_pos (by omega), if_pos h]
  · rw [if_neg (by omega), if_neg h]

theorem L_rdLP {l : List S68} {i : Int} (h0 : 0 ≤ i) (h : i < l.length) : ∃ hi : i.toNat < l.length, rd_T68 l i = l[i.toNat]'hi :=
  ⟨by omega, by unfold rd_T68; rw [List.getD_eq_getElem?_getD, List.getElem?_eq_getElem (by omega)]; rfl⟩

theorem L_toCurveLoop (l : List S68) (hn : l.length ≤ 1048576) (d : Nat) : ∀ (k : Nat) (out : List S66) (i : Int), out.length = l.length → 0 ≤ i → i + d = l.length → d < k → out.take i.toNat = (l.map D_point).take i.toNat → laws_toCurve.l0 k l out i = some (l.map D_point) := by
  induction d with
  | zero =>
    intro k out i ho h0 hd hk ht
    obtain ⟨k, rfl⟩ : ∃ m, k = m + 1 := ⟨k - 1, by omega⟩
    simp only [laws_toCurve.l0]; rw [if_neg (by omega)]
    rw [List.take_of_length_le (by omega), List.take_of_length_le (by simp; omega)] at ht
    rw [ht]
  | succ d ih =>
    intro k out i ho h0 hd hk ht
    obtain ⟨k, rfl⟩ : ∃ m, k = m + 1 := ⟨k - 1, by omega⟩
    obtain ⟨hi, e⟩ := L_rdLP (l := l) (i := i) h0 (by omega)
    simp only [laws_toCurve.l0, laws_toPoint.f, Option.bind_some]; rw [if_pos (by omega), if_pos h0, if_pos (by omega), L_w (x := i + 1) (by omega)]
    refine ih k _ (i + 1) (by simpa using ho) (by omega) (by omega) (by omega) ?_
    rw [show (i + 1).toNat = i.toNat + 1 by omega, List.take_succ_eq_append_getElem (by simp; omega), List.take_succ_eq_append_getElem (by simpa using hi), List.getElem_set_self, List.take_set_of_le (by omega), ht, List.getElem_map, e]
    rfl

theorem L_toCurve (l : List S68) (hn : l.length ≤ 1048576) {k : Nat} (hk : l.length < k) : laws_toCurve.f k l = some (l.map D_point) := by
  unfold laws_toCurve.f
  rw [if_pos (by omega), if_pos (by omega)]
  exact L_toCurveLoop l hn l.length k _ 0 (by simp) (by omega) (by omega) hk (by simp)

theorem L_eqI (a : List Int) (hn : a.length ≤ 140737488351232) (d : Nat) : ∀ (k : Nat) (i : Int), 0 ≤ i → i + d = a.length → d < k → laws_eqInt64S.l0 k a a i = some true := by
  induction d with
  | zero =>
    intro k i h0 hd hk
    obtain ⟨k, rfl⟩ : ∃ m, k = m + 1 := ⟨k - 1, by omega⟩
    simp only [laws_eqInt64S.l0]; rw [if_neg (by omega)]
  | succ d ih =>
    intro k i h0 hd hk
    obtain ⟨k, rfl⟩ : ∃ m, k = m + 1 := ⟨k - 1, by omega⟩
    simp only [laws_eqInt64S.l0]; rw [if_pos (by omega), if_pos h0, L_w (x := i + 1) (by omega)]
    simp only [if_true]
    rw [if_pos (by omega)]
    exact ih k (i + 1) (by omega) (by omega) (by omega)

theorem L_eqInt64S (a : List Int) (hn : a.length ≤ 140737488351232) {k : Nat} (hk : a.length < k) : laws_eqInt64S.f k a a = some true := by
  unfold laws_eqInt64S.f; rw [if_pos rfl]; exact L_eqI a hn a.length k 0 (by omega) (by omega) hk

theorem L_eqCurve (l : List S66) (hn : l.length ≤ 140737488351232) {k : Nat} (hk : l.length < k) : laws_eqCurve.f k l l = some true := by
  have H : ∀ (d : Nat) (k : Nat) (i : Int), 0 ≤ i → i + d = l.length → d < k → laws_eqCurve.l0 k l l i = some true := by
    intro d
    induction d with
    | zero =>
      intro k i h0 hd hk
      obtain ⟨k, rfl⟩ : ∃ m, k = m + 1 := ⟨k - 1, by omega⟩
      simp only [laws_eqCurve.l0]; rw [if_neg (by omega)]
    | succ d ih =>
      intro k i h0 hd hk
      obtain ⟨k, rfl⟩ : ∃ m, k = m + 1 := ⟨k - 1, by omega⟩
      simp only [laws_eqCurve.l0, laws_eqPoint.f, if_true, Option.bind_some]; rw [if_pos (by omega), if_pos h0, if_pos (by omega), L_w (x := i + 1) (by omega)]
      exact ih k (i + 1) (by omega) (by omega) (by omega)
  unfold laws_eqCurve.f; rw [if_pos rfl]; exact H l.length k 0 (by omega) (by omega) hk

theorem L_markCurve (n : Nat) (hn : n ≤ 1048576) (d : Nat) : ∀ (k : Nat) (l : List S66) (v i : Int), l.length = n → 0 ≤ i → i + d = n → d < k → 0 ≤ v → v ≤ 1000000000 + 2 * i → ∃ l', laws_markCurve.l0 k l v i = some (v + 2 * d, l') := by
  induction d with
  | zero =>
    intro k l v i hl h0 hd hk hv hv2
    obtain ⟨k, rfl⟩ : ∃ m, k = m + 1 := ⟨k - 1, by omega⟩
    refine ⟨l, ?_⟩
    simp only [laws_markCurve.l0]; rw [if_neg (by omega)]; simp
  | succ d ih =>
    intro k l v i hl h0 hd hk hv hv2
    obtain ⟨k, rfl⟩ : ∃ m, k = m + 1 := ⟨k - 1, by omega⟩
    simp only [laws_markCurve.l0, Option.bind_some]
    rw [if_pos (by omega), if_pos h0, L_w (x := v + 1) (by omega), L_w (x := v + 1 + 1) (by omega), L_w (x := i + 1) (by omega)]
    rw [show v + 2 * ((d + 1 : Nat) : Int) = v + 1 + 1 + 2 * (d : Int) by omega]
    exact ih k _ (v + 1 + 1) (i + 1) (by simpa using hl) (by omega) (by omega) (by omega) (by omega) (by omega)

theorem L_markCurveF (l : List S66) (hn : l.length ≤ 1048576) (v : Int) (hv : 0 ≤ v ∧ v ≤ 1000000000) {k : Nat} (hk : l.length < k) : ∃ l', laws_markCurve.f k l v = some (v + 2 * l.length, l') := by
  obtain ⟨l', e⟩ := L_markCurve l.length hn l.length k l v 0 rfl (by omega) (by omega) hk (by omega) (by omega)
  unfold laws_markCurve.f
  exact ⟨l', e⟩


theorem FnExactCoveredBands : ∀ (a0_0 : Int) (a0_1 : Int) (a0_2 : Int) (l1 : List S68) (a2 : Int), -128 ≤ a0_0 → a0_0 ≤ 127 → -128 ≤ a0_1 → a0_1 ≤ 127 → -128 ≤ a0_2 → a0_2 ≤ 127 → (∀ x ∈ l1, -32768 ≤ x.f0 ∧ x.f0 ≤ 32767 ∧ -32768 ≤ x.f1 ∧ x.f1 ≤ 32767) → l1.length * 4 ≤ 140737488351232 → -9223372036854775808 ≤ a2 → a2 ≤ 9223372036854775807 → ∃ k, laws_FnExactCoveredBands.f k a0_0 a0_1 a0_2 l1 a2 = some true := by
  intro a b c l den ha ha' hb hb' hc hc' h8 hl _ _
  have h16 := L_map16 l h8
  obtain ⟨R, m, hR, e1, e2⟩ := L_bandsOf ⟨ha, ha'⟩ ⟨hb, hb'⟩ ⟨hc, hc'⟩ (l.map D_point) h16 (by simp <;> omega) den true
  have s1 : ∀ k, l.length + 80 ≤ k → spec_CoveredBands.f k a b c (l.map D_point) den = some (R, m) := fun k hk => by
    unfold spec_CoveredBands.f; rw [e1 k (by simpa using hk)]; rfl
  have s2 : impl_CoveredBands.f a b c (l.map D_point) den = some (R, m) := by
    unfold impl_CoveredBands.f
    have := e2 ((l.map D_point).length + 100) (by omega)
    simpa using this
  obtain ⟨l', h1, h2⟩ := L_markHeld R (by omega)
  refine ⟨l.length + 200, ?_⟩
  unfold laws_FnExactCoveredBands.f
  rw [L_szCurve l 1048576 (by omega) hl]
  simp only [Option.bind_some]
  by_cases h : (1048576 : Int) < (l.length : Int)
  · rw [if_pos h]; rfl
  · rw [if_neg h, if_neg (by omega), L_toCurve l (by omega) (by omega)]
    unfold laws_toStrip.f
    simp only [Option.bind_some]
    rw [s1 _ (by omega)]
    simp only [Option.bind_some]
    rw [s2]
    simp only [Option.bind_some]
    rw [L_eqInt64S R (by omega) (by omega)]
    simp only [Option.bind_some, if_true, bne_self_eq_false, laws_FnExactCoveredBands.j0, Bool.false_eq_true, if_false]
    rw [L_toCurve l (by omega) (by omega)]
    simp only [Option.bind_some]
    rw [L_eqCurve _ (by simp <;> omega) (by simp <;> omega)]
    simp only [Option.bind_some, if_true]
    obtain ⟨la, ea⟩ := L_markCurveF (l.map D_point) (by simp <;> omega) 1 (by omega) (k := l.length + 199) (by simp <;> omega)
    rw [ea]
    simp only [Option.bind_some]
    rw [if_neg (by omega), L_eqInt64S R (by omega) (by omega)]
    simp only [Option.bind_some, if_true, laws_FnExactCoveredBands.j1, bne_self_eq_false, Bool.false_eq_true, if_false]
    rw [h1 _ (by omega)]
    simp only [Option.bind_some]
    rw [h2 _ (by omega)]
    simp only [Option.bind_some]
    rw [if_neg (by omega)]
    simp only [if_true, laws_toStrip.f, Option.bind_some]
    rw [L_toCurve l (by omega) (by omega)]
    simp only [Option.bind_some]
    rw [s2]
    simp only [Option.bind_some]
    rw [L_eqInt64S R (by omega) (by omega)]
    simp only [Option.bind_some, if_true, laws_FnExactCoveredBands.j2, bne_self_eq_false, Bool.false_eq_true, if_false]
    rw [h2 _ (by omega)]
    simp only [Option.bind_some]
    rw [if_neg (by omega)]
    simp only [if_true]

end Go.Proofs.Ytldhgldknefjdaa.Pure
