/- The plain law of FnExactConvertTable: the printed function of the law answers true for all arguments within their kinds' bounds. No condition besides. -/
import Derived.Test.YtiaaibiodolcgaaQx38
namespace Go.Proofs.Ytiaaibiodolcgaa.Pure
open Go.RowKit Go.Proofs.Ytiaaibiodolcgaa.Q Go.Proofs.YtiaaibiodolcgaaW.PrintWords Go.Proofs.YtiaaibiodolcgaaW.PrintLast Go.Proofs.YtiaaibiodolcgaaW.PrintMore
set_option linter.unusedVariables false
set_option linter.unusedSimpArgs false
def D_i16s (l : List S101) : Prop := ∀ x ∈ l, (-32768 ≤ x.f0 ∧ x.f0 ≤ 32767) ∧ -32768 ≤ x.f1 ∧ x.f1 ≤ 32767

def D_point (x : S103) : S101 := ⟨x.f0, x.f1⟩

theorem L_map16 (l : List S103) (h : ∀ x ∈ l, -32768 ≤ x.f0 ∧ x.f0 ≤ 32767 ∧ -32768 ≤ x.f1 ∧ x.f1 ≤ 32767) : D_i16s (l.map D_point) := by
  intro x hx
  simp only [List.mem_map] at hx
  obtain ⟨y, hy, rfl⟩ := hx
  have := h y hy
  unfold D_point
  dsimp only
  omega

def D_px (l : List S101) (i : Int) : Int := (rd_T101 l i).f0

def D_py (l : List S101) (i : Int) : Int := (rd_T101 l i).f1

def D_shapeFrom (l : List S101) : Nat → Int → Bool
  | 0, _ => decide ((l.length : Int) > 0)
  | d + 1, i => if (-200 ≤ D_px l i ∧ D_px l i ≤ 200) ∧ 0 ≤ D_py l i ∧ D_py l i ≤ 400 then (if i > 0 then (if D_px l i ≤ D_px l (i - 1) then false else (if D_py l i < D_py l (i - 1) then false else D_shapeFrom l d (i + 1))) else D_shapeFrom l d (i + 1)) else false

def D_shape (l : List S101) : Bool := D_shapeFrom l l.length 0

def D_curve (l : List S101) : Bool := D_shape l && decide ((l.length : Int) ≤ 12)

def D_interp (l : List S101) (x i : Int) : Int := D_py l i + (D_py l (i + 1) - D_py l i) * (x - D_px l i) / (D_px l (i + 1) - D_px l i)

def D_atFrom (l : List S101) (x : Int) : Nat → Int → Int
  | 0, _ => 0
  | d + 1, i => if D_px l i ≤ x then D_atFrom l x d (i + 1) else D_interp l x (i - 1)

def D_at (l : List S101) (x : Int) : Int :=
  if x ≤ D_px l 0 then D_py l 0 else (if x ≥ D_px l ((l.length : Int) - 1) then D_py l ((l.length : Int) - 1) else D_atFrom l x (l.length - 1) 1)

def D_dark (l : List S101) (den light : Int) : Int := D_at l (light - (den + 5) / 10)

def D_leastFrom (l : List S101) (den tgt : Int) : Nat → Int → Int
  | 0, i => i
  | d + 1, i => if D_dark l den i < tgt then D_leastFrom l den tgt d (i + 1) else i

def D_least (l : List S101) (den tgt : Int) : Int := D_leastFrom l den tgt 37 0

def D_tableFrom (l m : List S101) : Nat → Int → List Int
  | 0, _ => []
  | d + 1, i => (if D_least m 0 (D_at l i) ≤ 36 then D_least m 0 (D_at l i) else -1) :: D_tableFrom l m d (i + 1)

theorem L_tableLen (l m : List S101) (d : Nat) : ∀ i, (D_tableFrom l m d i).length = d := by
  induction d with
  | zero => intro i; rfl
  | succ d ih => intro i; simp [D_tableFrom, ih]

theorem L_sd {p q : Prop} [Decidable p] [Decidable q] (h : p ↔ q) : some (decide p) = some (decide q) := by rw [decide_eq_decide.mpr h]

theorem L_sf {q : Prop} [Decidable q] (h : ¬ q) : some false = some (decide q) := by rw [decide_eq_false h]

theorem L_within (a b c : Int) : impl_within.f a b c = some (decide (b ≤ a ∧ a ≤ c)) := by
  unfold impl_within.f
  split
  · exact L_sd (by omega)
  · exact L_sf (by omega)

theorem L_areThirds (a : Int) : impl_areThirds.f a = some (decide (0 ≤ a ∧ a ≤ 36)) := by
  unfold impl_areThirds.f; rw [L_within]; rfl

theorem L_shapeFacts (l : List S101) (d : Nat) : ∀ i : Int, 0 ≤ i → i + d = l.length → D_shapeFrom l d i = true →
    0 < l.length ∧ ∀ j : Int, i ≤ j → j < l.length → ((-200 ≤ D_px l j ∧ D_px l j ≤ 200) ∧ 0 ≤ D_py l j ∧ D_py l j ≤ 400) ∧ (j > 0 → D_px l (j - 1) < D_px l j ∧ D_py l (j - 1) ≤ D_py l j) := by
  induction d with
  | zero =>
    intro i h0 hd h
    simp only [D_shapeFrom, decide_eq_true_eq] at h
    exact ⟨by omega, fun j h1 h2 => by omega⟩
  | succ d ih =>
    intro i h0 hd h
    simp only [D_shapeFrom] at h
    by_cases h1 : (-200 ≤ D_px l i ∧ D_px l i ≤ 200) ∧ 0 ≤ D_py l i ∧ D_py l i ≤ 400
    · rw [if_pos h1] at h
      have key : D_shapeFrom l d (i + 1) = true ∧ (i > 0 → D_px l (i - 1) < D_px l i ∧ D_py l (i - 1) ≤ D_py l i) := by
        by_cases h2 : i > 0
        · rw [if_pos h2] at h
          by_cases h3 : D_px l i ≤ D_px l (i - 1)
          · rw [if_pos h3] at h; cases h
          · rw [if_neg h3] at h
            by_cases h4 : D_py l i < D_py l (i - 1)
            · rw [if_pos h4] at h; cases h
            · rw [if_neg h4] at h
              exact ⟨h, fun _ => by omega⟩
        · rw [if_neg h2] at h
          exact ⟨h, fun h => absurd h h2⟩
      obtain ⟨a, b⟩ := ih (i + 1) (by omega) (by omega) key.1
      refine ⟨a, fun j hj hj2 => ?_⟩
      by_cases e : j = i
      · subst e; exact ⟨h1, key.2⟩
      · exact b j (by omega) hj2
    · rw [if_neg h1] at h; cases h

theorem L_curveFacts {l : List S101} (h : D_curve l = true) : (1 ≤ l.length ∧ l.length ≤ 12) ∧ ∀ j : Int, 0 ≤ j → j < l.length → ((-200 ≤ D_px l j ∧ D_px l j ≤ 200) ∧ 0 ≤ D_py l j ∧ D_py l j ≤ 400) ∧ (j > 0 → D_px l (j - 1) < D_px l j ∧ D_py l (j - 1) ≤ D_py l j) := by
  unfold D_curve D_shape at h
  simp only [Bool.and_eq_true, decide_eq_true_eq] at h
  obtain ⟨a, b⟩ := L_shapeFacts l l.length 0 (by omega) (by omega) h.1
  exact ⟨by omega, b⟩

theorem L_w {x : Int} (h : -9223372036854775808 ≤ x ∧ x ≤ 9223372036854775807) : wrap64 x = x := by unfold wrap64; omega

theorem L_pxF (l : List S101) (i : Int) : (rd_T101 l i).f0 = D_px l i := rfl

theorem L_pyF (l : List S101) (i : Int) : (rd_T101 l i).f1 = D_py l i := rfl

theorem L_mulb {x y X Y : Int} (h : 0 ≤ x) (hx : x ≤ X) (k : 0 ≤ y) (ky : y ≤ Y) : 0 ≤ x * y ∧ x * y ≤ X * Y :=
  ⟨Int.mul_nonneg h k, Int.mul_le_mul hx ky k (Int.le_trans h hx)⟩

theorem L_quot {a b q : Int} (ha : 0 ≤ a) (hb : 0 < b) (h : a ≤ q * b) : 0 ≤ a / b ∧ a / b ≤ q := by
  refine ⟨Int.ediv_nonneg ha (by omega), ?_⟩
  have := Int.ediv_le_ediv hb h
  rwa [Int.mul_ediv_cancel _ (by omega)] at this

theorem L_interpb {y0 y1 x0 x1 x : Int} (hy0 : 0 ≤ y0) (hy : y0 ≤ y1) (hy1 : y1 ≤ 400) (hx : x0 < x1) (h0 : x0 ≤ x) (h1 : x ≤ x1) (hb : -200 ≤ x0 ∧ x1 ≤ 200) :
    (0 ≤ (y1 - y0) * (x - x0) ∧ (y1 - y0) * (x - x0) ≤ 160000) ∧ 0 ≤ (y1 - y0) * (x - x0) / (x1 - x0) ∧ (y1 - y0) * (x - x0) / (x1 - x0) ≤ y1 - y0 := by
  have m1 := L_mulb (x := y1 - y0) (y := x - x0) (X := 400) (Y := 400) (by omega) (by omega) (by omega) (by omega)
  have m2 := L_mulb (x := y1 - y0) (y := x - x0) (X := y1 - y0) (Y := x1 - x0) (by omega) (by omega) (by omega) (by omega)
  exact ⟨by omega, L_quot m1.1 (by omega) m2.2⟩

theorem L_w16 {x : Int} (h : -32768 ≤ x ∧ x ≤ 32767) : IntKind.i16.wrap x = x := by simp [IntKind.wrap, IntKind.bits, IntKind.signed]; omega

theorem L_atLoops {l : List S101} (h : D_curve l = true) {x : Int} (hx : x < D_px l ((l.length : Int) - 1)) (d : Nat) : ∀ (k : Nat) (i : Int), 1 ≤ i → i + d = l.length → d < k → D_px l (i - 1) ≤ x →
    (spec_l02At.l0 k l x (i - 1) = some (D_atFrom l x d i) ∧ impl_Curve_at.l0 k l x i = some (D_atFrom l x d i)) ∧ 0 ≤ D_atFrom l x d i ∧ D_atFrom l x d i ≤ 400 ∧
      ∃ j, i - 1 ≤ j ∧ j + 1 < l.length ∧ D_px l j ≤ x ∧ x < D_px l (j + 1) ∧ D_atFrom l x d i = D_interp l x j := by
  obtain ⟨hl, hf⟩ := L_curveFacts h
  induction d with
  | zero =>
    intro k i h1 hd hk hp
    have : i - 1 = (l.length : Int) - 1 := by omega
    rw [this] at hp
    omega
  | succ d ih =>
    intro k i h1 hd hk hp
    obtain ⟨k, rfl⟩ : ∃ m, k = m + 1 := ⟨k - 1, by omega⟩
    have f0 := hf (i - 1) (by omega) (by omega)
    have f1 := hf i (by omega) (by omega)
    have f2 := f1.2 (by omega)
    have w1 : wrap64 (i - 1 + 1) = i := by rw [L_w (by omega)]; omega
    have w2 : wrap64 (i - 1) = i - 1 := L_w (by omega)
    have w3 : wrap64 (i + 1) = i + 1 := L_w (by omega)
    have wx1 : wrap64 (D_px l i) = D_px l i := L_w (by omega)
    have wy1 : wrap64 (D_py l i) = D_py l i := L_w (by omega)
    have wx0 : wrap64 (D_px l (i - 1)) = D_px l (i - 1) := L_w (by omega)
    have wy0 : wrap64 (D_py l (i - 1)) = D_py l (i - 1) := L_w (by omega)
    simp only [spec_l02At.l0, impl_Curve_at.l0, D_atFrom, L_pxF, L_pyF, w1, w2, w3, wx1, wy1, wx0, wy0]
    have c1 : 0 ≤ i := by omega
    have c2 : i < (l.length : Int) := by omega
    have c3 : 0 ≤ i - 1 := by omega
    have c4 : i - 1 < (l.length : Int) := by omega
    simp only [if_pos c1, if_pos c2, if_pos c3, if_pos c4]
    by_cases hc : D_px l i ≤ x
    · have e : i + 1 - 1 = i := by omega
      obtain ⟨⟨a1, a2⟩, a3, a4, j, b1, b2, b3, b4, b5⟩ := ih k (i + 1) (by omega) (by omega) (by omega) (by rw [e]; exact hc)
      rw [e] at a1
      simp only [if_pos hc]
      exact ⟨⟨a1, a2⟩, a3, a4, j, by omega, b2, b3, b4, b5⟩
    · have hb := L_interpb (y0 := D_py l (i - 1)) (y1 := D_py l i) (x0 := D_px l (i - 1)) (x1 := D_px l i) (x := x) (by omega) (by omega) (by omega) (by omega) hp (by omega) (by omega)
      have e : i - 1 + 1 = i := by omega
      have v1 : IntKind.i16.wrap (D_px l i - D_px l (i - 1)) = D_px l i - D_px l (i - 1) := L_w16 (by omega)
      have v2 : IntKind.i16.wrap (D_py l i - D_py l (i - 1)) = D_py l i - D_py l (i - 1) := L_w16 (by omega)
      have u1 : wrap64 (D_px l i - D_px l (i - 1)) = D_px l i - D_px l (i - 1) := L_w (by omega)
      have u2 : wrap64 (D_py l i - D_py l (i - 1)) = D_py l i - D_py l (i - 1) := L_w (by omega)
      have u3 : wrap64 (x - D_px l (i - 1)) = x - D_px l (i - 1) := L_w (by omega)
      have u4 : wrap64 ((D_py l i - D_py l (i - 1)) * (x - D_px l (i - 1))) = (D_py l i - D_py l (i - 1)) * (x - D_px l (i - 1)) := L_w (by omega)
      have u5 : ((D_py l i - D_py l (i - 1)) * (x - D_px l (i - 1))).tdiv (D_px l i - D_px l (i - 1)) = (D_py l i - D_py l (i - 1)) * (x - D_px l (i - 1)) / (D_px l i - D_px l (i - 1)) := Int.tdiv_eq_ediv_of_nonneg hb.1.1
      have u6 : wrap64 ((D_py l i - D_py l (i - 1)) * (x - D_px l (i - 1)) / (D_px l i - D_px l (i - 1))) = (D_py l i - D_py l (i - 1)) * (x - D_px l (i - 1)) / (D_px l i - D_px l (i - 1)) := L_w (by omega)
      have u7 : wrap64 (D_py l (i - 1) + (D_py l i - D_py l (i - 1)) * (x - D_px l (i - 1)) / (D_px l i - D_px l (i - 1))) = D_py l (i - 1) + (D_py l i - D_py l (i - 1)) * (x - D_px l (i - 1)) / (D_px l i - D_px l (i - 1)) := L_w (by omega)
      have c5 : ¬ (D_px l i - D_px l (i - 1) = 0) := by omega
      simp only [if_neg hc, v1, v2, u1, u2, u3, u4, u5, u6, u7, if_neg c5]
      unfold D_interp
      rw [e]
      exact ⟨⟨rfl, rfl⟩, by omega, by omega, i - 1, by omega, by omega, hp, by rw [e]; omega, by rw [e]⟩

theorem L_at {l : List S101} (h : D_curve l = true) {x : Int} {k : Nat} (hk : 13 ≤ k) : spec_l02At.f k l x = some (D_at l x) ∧ impl_Curve_at.f k l x = some (D_at l x) ∧ 0 ≤ D_at l x ∧ D_at l x ≤ 400 := by
  obtain ⟨hl, hf⟩ := L_curveFacts h
  have f0 := hf 0 (by omega) (by omega)
  have fn := hf ((l.length : Int) - 1) (by omega) (by omega)
  have w1 : wrap64 ((l.length : Int) - 1) = (l.length : Int) - 1 := L_w (by omega)
  have c1 : 0 < (l.length : Int) := by omega
  have c2 : 0 ≤ (l.length : Int) - 1 := by omega
  have c3 : (l.length : Int) - 1 < (l.length : Int) := by omega
  have wx0 : wrap64 (D_px l 0) = D_px l 0 := L_w (by omega)
  have wy0 : wrap64 (D_py l 0) = D_py l 0 := L_w (by omega)
  have wx1 : wrap64 (D_px l ((l.length : Int) - 1)) = D_px l ((l.length : Int) - 1) := L_w (by omega)
  have wy1 : wrap64 (D_py l ((l.length : Int) - 1)) = D_py l ((l.length : Int) - 1) := L_w (by omega)
  unfold spec_l02At.f impl_Curve_at.f D_at
  simp only [L_pxF, L_pyF, w1, wx0, wy0, wx1, wy1, if_pos c1, if_pos c2, if_pos c3]
  by_cases h1 : x ≤ D_px l 0
  · simp only [if_pos h1]; exact ⟨trivial, trivial, by omega, by omega⟩
  · by_cases h2 : x ≥ D_px l ((l.length : Int) - 1)
    · simp only [if_neg h1, if_pos h2]; exact ⟨trivial, trivial, by omega, by omega⟩
    · simp only [if_neg h1, if_neg h2]
      obtain ⟨⟨a1, a2⟩, a3, a4, _⟩ := L_atLoops h (x := x) (by omega) (l.length - 1) k 1 (by omega) (by omega) (by omega) (by rw [show (1 : Int) - 1 = 0 by omega]; omega)
      exact ⟨a1, a2, a3, a4⟩

theorem L_dark {l : List S101} (h : D_curve l = true) {den light : Int} (hd : 0 ≤ den ∧ den ≤ 400) (hl : -100 ≤ light ∧ light ≤ 100) {k : Nat} (hk : 13 ≤ k) :
    spec_l05Dark.f k l den light = some (D_dark l den light) ∧ impl_Curve_behind.f k l light den = some (D_dark l den light) ∧ 0 ≤ D_dark l den light ∧ D_dark l den light ≤ 400 := by
  obtain ⟨a1, a2, a3, a4⟩ := L_at h (x := light - (den + 5) / 10) hk
  unfold spec_l05Dark.f spec_l03Held.f impl_Curve_behind.f D_dark
  rw [L_w16 (x := den) (by omega), L_w (x := den) (by omega), L_w (x := den + 5) (by omega), Int.tdiv_eq_ediv_of_nonneg (by omega), L_w (x := (den + 5) / 10) (by omega)]
  simp only [Option.bind_some]
  rw [L_w (x := light - (den + 5) / 10) (by omega), a1, a2]
  exact ⟨rfl, rfl, a3, a4⟩

theorem L_specLeastFrom {l : List S101} (h : D_curve l = true) {den : Int} (tgt : Int) (hd' : 0 ≤ den ∧ den ≤ 400) (d : Nat) : ∀ (k : Nat) (i : Int), 0 ≤ i → i + d = 37 → d + 14 ≤ k → spec_l05Least.l0 k l den tgt i = some (if D_leastFrom l den tgt d i ≤ 36 then D_leastFrom l den tgt d i else -1) := by
  induction d with
  | zero =>
    intro k i h0 hd hk
    obtain ⟨k, rfl⟩ : ∃ m, k = m + 1 := ⟨k - 1, by omega⟩
    have e : D_leastFrom l den tgt 0 i = i := rfl
    simp only [spec_l05Least.l0]
    rw [if_neg (by omega), e, if_neg (by omega)]
  | succ d ih =>
    intro k i h0 hd hk
    obtain ⟨k, rfl⟩ : ∃ m, k = m + 1 := ⟨k - 1, by omega⟩
    simp only [spec_l05Least.l0]
    rw [if_pos (by omega), (L_dark h hd' (light := i) (by omega) (by omega)).1]
    simp only [Option.bind_some]
    by_cases hc : D_dark l den i < tgt
    · have e : D_leastFrom l den tgt (d + 1) i = D_leastFrom l den tgt d (i + 1) := by simp only [D_leastFrom]; rw [if_pos hc]
      rw [if_neg (by omega), L_w (x := i + 1) (by omega), e]
      exact ih k (i + 1) (by omega) (by omega) (by omega)
    · have e : D_leastFrom l den tgt (d + 1) i = i := by simp only [D_leastFrom]; rw [if_neg hc]
      rw [if_pos (by omega), e, if_pos (by omega)]

theorem L_implLeastFrom {l : List S101} (h : D_curve l = true) {den : Int} (tgt : Int) (hd' : 0 ≤ den ∧ den ≤ 400) (d : Nat) : ∀ (k : Nat) (i : Int), 0 ≤ i → i + d = 37 → d + 14 ≤ k → impl_Curve_leastLight.l0 k l den tgt i = some (D_leastFrom l den tgt d i) := by
  induction d with
  | zero =>
    intro k i h0 hd hk
    obtain ⟨k, rfl⟩ : ∃ m, k = m + 1 := ⟨k - 1, by omega⟩
    simp only [impl_Curve_leastLight.l0, L_areThirds, Option.bind_some, decide_eq_true_eq, D_leastFrom]
    rw [if_neg (by omega)]
  | succ d ih =>
    intro k i h0 hd hk
    obtain ⟨k, rfl⟩ : ∃ m, k = m + 1 := ⟨k - 1, by omega⟩
    simp only [impl_Curve_leastLight.l0, L_areThirds, Option.bind_some, decide_eq_true_eq, D_leastFrom]
    rw [if_pos (by omega), (L_dark h hd' (light := i) (by omega) (by omega)).2.1]
    simp only [Option.bind_some]
    by_cases hc : D_dark l den i < tgt
    · rw [if_pos hc, if_pos hc, L_w (x := i + 1) (by omega)]
      exact ih k (i + 1) (by omega) (by omega) (by omega)
    · rw [if_neg hc, if_neg hc]

theorem L_leastRange (l : List S101) (den tgt : Int) (d : Nat) : ∀ i : Int, 0 ≤ i → i + d = 37 → i ≤ D_leastFrom l den tgt d i ∧ D_leastFrom l den tgt d i ≤ 37 := by
  induction d with
  | zero => intro i h0 hd; unfold D_leastFrom; omega
  | succ d ih =>
    intro i h0 hd
    unfold D_leastFrom
    split
    · have := ih (i + 1) (by omega) (by omega); omega
    · omega

theorem L_least {l : List S101} (h : D_curve l = true) {den : Int} (tgt : Int) (hd : 0 ≤ den ∧ den ≤ 400) {k : Nat} (hk : 51 ≤ k) :
    spec_l05Least.f k l den tgt = some (if D_least l den tgt ≤ 36 then D_least l den tgt else -1) ∧ impl_Curve_leastLight.f k l den tgt = some (D_least l den tgt) ∧ 0 ≤ D_least l den tgt ∧ D_least l den tgt ≤ 37 :=
  ⟨L_specLeastFrom h tgt hd 37 k 0 (by omega) (by omega) (by omega), L_implLeastFrom h tgt hd 37 k 0 (by omega) (by omega) (by omega), L_leastRange l den tgt 37 0 (by omega) (by omega)⟩

theorem L_tableLoops {l m : List S101} (hl : D_curve l = true) (hm : D_curve m = true) (d : Nat) : ∀ (k : Nat) (o : List Int) (i : Int), 0 ≤ i → i + d = 37 → (o.length : Int) ≤ i → d + 60 ≤ k →
    spec_ConvertTable.l0 k l m o i = some (o ++ D_tableFrom l m d i, 0) ∧ impl_ConvertTable.l0 k l m o i = some (o ++ D_tableFrom l m d i, 0) := by
  induction d with
  | zero =>
    intro k o i h0 hd ho hk
    obtain ⟨k, rfl⟩ : ∃ q, k = q + 1 := ⟨k - 1, by omega⟩
    simp only [spec_ConvertTable.l0, impl_ConvertTable.l0, L_areThirds, Option.bind_some, decide_eq_true_eq, D_tableFrom]
    rw [if_neg (by omega), if_neg (by omega)]; simp
  | succ d ih =>
    intro k o i h0 hd ho hk
    obtain ⟨k, rfl⟩ : ∃ q, k = q + 1 := ⟨k - 1, by omega⟩
    obtain ⟨f1, f2, f3, f4⟩ := L_at hl (x := i) (k := k) (by omega)
    obtain ⟨e1, e2, e3, e4⟩ := L_least hm (D_at l i) (den := 0) (by omega) (k := k) (by omega)
    simp only [spec_ConvertTable.l0, impl_ConvertTable.l0, L_areThirds, Option.bind_some, decide_eq_true_eq, D_tableFrom, f1, f2, e1, e2]
    rw [if_pos (by omega), if_pos (by omega), L_w (x := i + 1) (by omega), if_pos (show 0 ≤ i ∧ i ≤ 36 by omega)]
    by_cases h3 : D_least m 0 (D_at l i) ≤ 36
    · simp only [if_pos h3]
      rw [if_pos (show 0 ≤ D_least m 0 (D_at l i) ∧ D_least m 0 (D_at l i) ≤ 36 from ⟨e3, h3⟩)]
      obtain ⟨a1, a2⟩ := ih k (o ++ [D_least m 0 (D_at l i)]) (i + 1) (by omega) (by omega) (by simp; omega) (by omega)
      rw [if_pos (by omega), a1, a2]; simp
    · simp only [if_neg h3]
      rw [if_neg (show ¬ (0 ≤ D_least m 0 (D_at l i) ∧ D_least m 0 (D_at l i) ≤ 36) by omega)]
      obtain ⟨a1, a2⟩ := ih k (o ++ [-1]) (i + 1) (by omega) (by omega) (by simp; omega) (by omega)
      rw [if_pos (by omega), a1, a2]; simp

theorem L_rdP {l : List S101} {i : Int} (h0 : 0 ≤ i) (h : i < l.length) : ∃ hi : i.toNat < l.length, rd_T101 l i = l[i.toNat]'hi :=
  ⟨by omega, by unfold rd_T101; rw [List.getD_eq_getElem?_getD, List.getElem?_eq_getElem (by omega)]; rfl⟩

theorem L_p16 {l : List S101} (h : D_i16s l) {i : Int} (h0 : 0 ≤ i) (h1 : i < l.length) : (-32768 ≤ D_px l i ∧ D_px l i ≤ 32767) ∧ -32768 ≤ D_py l i ∧ D_py l i ≤ 32767 := by
  obtain ⟨hi, e⟩ := L_rdP (l := l) (i := i) h0 h1
  unfold D_px D_py
  rw [e]
  exact h _ (List.getElem_mem hi)

theorem L_in (a b c : Int) : spec_l00In.f a b c = some (decide (b ≤ a ∧ a ≤ c)) := by
  unfold spec_l00In.f
  split
  · exact L_sd (by omega)
  · exact L_sf (by omega)

theorem L_specDensity (a : Int) : spec_l02Density.f a = some (decide (0 ≤ a ∧ a ≤ 400)) := by unfold spec_l02Density.f; rw [L_in]; rfl

theorem L_specPoint {x y : Int} (hx : -32768 ≤ x ∧ x ≤ 32767) (hy : -32768 ≤ y ∧ y ≤ 32767) : spec_l02Point.f x y = some (decide ((-200 ≤ x ∧ x ≤ 200) ∧ 0 ≤ y ∧ y ≤ 400)) := by
  unfold spec_l02Point.f spec_l02Place.f
  rw [L_w (x := x) (by omega), L_w (x := y) (by omega), L_in, L_specDensity]
  simp only [Option.bind_some, decide_eq_true_eq]
  split
  · exact L_sd (by omega)
  · exact L_sf (by omega)

theorem L_specShapeLoop (l : List S101) (h16 : D_i16s l) (hn : l.length ≤ 140737488351232) (d : Nat) : ∀ (k : Nat) (i : Int), 0 ≤ i → i + d = l.length → d < k → spec_l02Shape.l0 k l i = some (D_shapeFrom l d i) := by
  induction d with
  | zero =>
    intro k i h0 hd hk
    obtain ⟨k, rfl⟩ : ∃ m, k = m + 1 := ⟨k - 1, by omega⟩
    simp only [spec_l02Shape.l0, D_shapeFrom]; rw [if_neg (by omega)]
  | succ d ih =>
    intro k i h0 hd hk
    obtain ⟨k, rfl⟩ : ∃ m, k = m + 1 := ⟨k - 1, by omega⟩
    have hp := L_p16 h16 h0 (show i < l.length by omega)
    have ih' := ih k (i + 1) (by omega) (by omega) (by omega)
    simp only [spec_l02Shape.l0, D_shapeFrom]
    rw [if_pos (by omega), if_pos h0, L_w (x := i + 1) (by omega), L_w (x := i - 1) (by omega)]
    change (spec_l02Point.f (D_px l i) (D_py l i)).bind _ = _
    rw [L_specPoint hp.1 hp.2]
    simp only [Option.bind_some, decide_eq_true_eq]
    by_cases h1 : (-200 ≤ D_px l i ∧ D_px l i ≤ 200) ∧ 0 ≤ D_py l i ∧ D_py l i ≤ 400
    · rw [if_pos h1, if_pos h1]
      by_cases h2 : i > 0
      · rw [if_pos h2, if_pos h2, if_pos (by omega), if_pos (by omega)]
        change (if D_px l i ≤ D_px l (i - 1) then _ else (if D_py l i < D_py l (i - 1) then _ else _)) = _
        by_cases h3 : D_px l i ≤ D_px l (i - 1)
        · rw [if_pos h3, if_pos h3]
        · rw [if_neg h3, if_neg h3]
          by_cases h4 : D_py l i < D_py l (i - 1)
          · rw [if_pos h4, if_pos h4]
          · rw [if_neg h4, if_neg h4, ih']
      · rw [if_neg h2, if_neg h2, ih']
    · rw [if_neg h1, if_neg h1]

theorem L_specCurve (l : List S101) (h16 : D_i16s l) (hn : l.length ≤ 140737488351232) {k : Nat} (hk : l.length < k) : spec_l02Ok.f k l = some (D_curve l) := by
  unfold spec_l02Ok.f spec_l02Shape.f D_curve
  rw [L_specShapeLoop l h16 hn l.length k 0 (by omega) (by omega) hk]
  simp only [Option.bind_some]
  show _ = some (D_shape l && _)
  unfold D_shape
  split
  · rename_i h; rw [h]; rfl
  · rename_i h; rw [Bool.eq_false_iff.mpr h]; rfl

theorem L_isPlace (x : Int) : impl_isPlace.f x = some (decide (-200 ≤ x ∧ x ≤ 200)) := by unfold impl_isPlace.f; rw [L_within]; rfl

theorem L_isDensity (a : Int) : impl_isDensity.f a = some (decide (0 ≤ a ∧ a ≤ 400)) := by unfold impl_isDensity.f; rw [L_within]; rfl

theorem L_implPoint {x y : Int} (hx : -32768 ≤ x ∧ x ≤ 32767) (hy : -32768 ≤ y ∧ y ≤ 32767) : impl_isPoint.f x y = some (decide ((-200 ≤ x ∧ x ≤ 200) ∧ 0 ≤ y ∧ y ≤ 400)) := by
  unfold impl_isPoint.f
  rw [L_w (x := x) (by omega), L_w (x := y) (by omega), L_isPlace, L_isDensity]
  simp only [Option.bind_some, decide_eq_true_eq]
  split
  · exact L_sd (by omega)
  · exact L_sf (by omega)

theorem L_implShapeLoop (l : List S101) (h16 : D_i16s l) (hn : l.length ≤ 140737488351232) (d : Nat) : ∀ (k : Nat) (i : Int), 0 ≤ i → i + d = l.length → d < k → impl_isCurve.l0 k l l (l.length : Int) i = some (D_shapeFrom l d i) := by
  induction d with
  | zero =>
    intro k i h0 hd hk
    obtain ⟨k, rfl⟩ : ∃ m, k = m + 1 := ⟨k - 1, by omega⟩
    simp only [impl_isCurve.l0, D_shapeFrom]; rw [if_neg (by omega)]
  | succ d ih =>
    intro k i h0 hd hk
    obtain ⟨k, rfl⟩ : ∃ m, k = m + 1 := ⟨k - 1, by omega⟩
    have hp := L_p16 h16 h0 (show i < l.length by omega)
    have ih' := ih k (i + 1) (by omega) (by omega) (by omega)
    simp only [impl_isCurve.l0, D_shapeFrom]
    rw [if_pos (by omega), if_pos h0, if_pos (by omega), L_w (x := i + 1) (by omega), L_w (x := i - 1) (by omega)]
    change (impl_isPoint.f (D_px l i) (D_py l i)).bind _ = _
    rw [L_implPoint hp.1 hp.2]
    simp only [Option.bind_some, decide_eq_true_eq]
    by_cases h1 : (-200 ≤ D_px l i ∧ D_px l i ≤ 200) ∧ 0 ≤ D_py l i ∧ D_py l i ≤ 400
    · rw [if_pos h1, if_pos h1]
      by_cases h2 : i > 0
      · rw [if_pos h2, if_pos h2, if_pos (by omega), if_pos (by omega)]
        change (if D_px l (i - 1) ≥ D_px l i then _ else (if D_py l (i - 1) > D_py l i then _ else _)) = _
        by_cases h3 : D_px l i ≤ D_px l (i - 1)
        · rw [if_pos (by omega), if_pos h3]
        · rw [if_neg (by omega), if_neg h3]
          by_cases h4 : D_py l i < D_py l (i - 1)
          · rw [if_pos (by omega), if_pos h4]
          · rw [if_neg (by omega), if_neg h4, ih']
      · rw [if_neg h2, if_neg h2, ih']
    · rw [if_neg h1, if_neg h1]

theorem L_implCurve (l : List S101) (h16 : D_i16s l) (hn : l.length ≤ 140737488351232) {k : Nat} (hk : l.length < k) : impl_ValidCurve.f k l = some (D_curve l) := by
  unfold impl_ValidCurve.f impl_isCurve.f D_curve
  rw [L_implShapeLoop l h16 hn l.length k 0 (by omega) (by omega) hk]
  simp only [Option.bind_some]
  show _ = some (D_shape l && _)
  unfold D_shape
  split
  · rename_i h; rw [h]; rfl
  · rename_i h; rw [Bool.eq_false_iff.mpr h]; rfl

theorem L_curveCode (l : List S101) (h16 : D_i16s l) (hn : l.length ≤ 140737488351232) (b : Bool) {k : Nat} (hk : l.length < k) : impl_curveCode.f k l b = some (if D_curve l = true then (if b = true then 0 else 2) else 1) := by
  unfold impl_curveCode.f
  rw [L_implCurve l h16 hn hk]
  simp only [Option.bind_some]
  split
  · split <;> rfl
  · rfl


theorem L_printCode (l m : List S101) (h16 : D_i16s l) (hn : l.length ≤ 140737488351232) (m16 : D_i16s m) (mn : m.length ≤ 140737488351232) (b : Bool) {k : Nat} (hk : l.length < k) (mk : m.length < k) :
    impl_printCode.f k l m b = some (if D_curve l = true ∧ D_curve m = true then (if b = true then 0 else 2) else 1) := by
  unfold impl_printCode.f
  rw [L_implCurve l h16 hn hk, L_curveCode m m16 mn b mk]
  simp only [Option.bind_some]
  by_cases h : D_curve l = true
  · simp [h]
  · simp [h]

theorem L_table (l m : List S101) (h16 : D_i16s l) (hn : l.length ≤ 140737488351232) (m16 : D_i16s m) (mn : m.length ≤ 140737488351232) :
    ∃ R c, R.length ≤ 37 ∧ ∀ k, l.length + m.length + 200 ≤ k → spec_ConvertTable.f k l m = some (R, c) ∧ impl_ConvertTable.f k l m = some (R, c) := by
  by_cases hc : D_curve l = true ∧ D_curve m = true
  · refine ⟨D_tableFrom l m 37 0, 0, by rw [L_tableLen]; omega, fun k hk => ?_⟩
    obtain ⟨k, rfl⟩ : ∃ q, k = q + 1 := ⟨k - 1, by omega⟩
    obtain ⟨a1, _⟩ := L_tableLoops hc.1 hc.2 37 k [] 0 (by omega) (by omega) (by simp) (by omega)
    obtain ⟨_, a2⟩ := L_tableLoops hc.1 hc.2 37 (k + 1) [] 0 (by omega) (by omega) (by simp) (by omega)
    unfold spec_ConvertTable.f impl_ConvertTable.f
    simp only [L_specCurve l h16 hn (show l.length < k + 1 by omega), L_specCurve m m16 mn (show m.length < k + 1 by omega), L_printCode l m h16 hn m16 mn _ (show l.length < k + 1 by omega) (show m.length < k + 1 by omega), Option.bind_some, hc.1, hc.2, and_self, if_true, Bool.not_true, spec_ConvertTable.j0, Bool.false_eq_true, if_false, a1, a2, List.nil_append]
  · refine ⟨[], 1, by simp, fun k hk => ?_⟩
    obtain ⟨k, rfl⟩ : ∃ q, k = q + 1 := ⟨k - 1, by omega⟩
    unfold spec_ConvertTable.f impl_ConvertTable.f
    simp only [L_specCurve l h16 hn (show l.length < k + 1 by omega), L_specCurve m m16 mn (show m.length < k + 1 by omega), L_printCode l m h16 hn m16 mn _ (show l.length < k + 1 by omega) (show m.length < k + 1 by omega), Option.bind_some, if_neg hc, spec_ConvertTable.j0]
    refine ⟨?_, by rw [if_neg (by omega)]⟩
    by_cases h : D_curve l = true
    · have hm : D_curve m = false := Bool.eq_false_iff.mpr (fun x => hc ⟨h, x⟩)
      simp [h, hm]
    · simp [h]

theorem L_markI (n : Nat) (hn : n ≤ 140737488351232) (d : Nat) : ∀ (k : Nat) (l : List Int) (v i : Int), l.length = n → 0 ≤ i → i + d = n → d < k → 0 ≤ v → v ≤ 281474976702464 + i →
    ∃ l', laws_markInt64S.l0 k l v i = some (v + d, l') ∧ l'.length = n ∧ (∀ j : Int, 0 ≤ j → j < i → rd l' j = rd l j) ∧ (∀ j : Int, i ≤ j → j < n → rd l' j = v + (j - i)) := by
  induction d with
  | zero =>
    intro k l v i hl h0 hd hk hv hv2
    obtain ⟨k, rfl⟩ : ∃ m, k = m + 1 := ⟨k - 1, by omega⟩
    refine ⟨l, ?_, hl, fun _ _ _ => rfl, fun j h1 h2 => by omega⟩
    simp only [laws_markInt64S.l0]; rw [if_neg (by omega)]; simp
  | succ d ih =>
    intro k l v i hl h0 hd hk hv hv2
    obtain ⟨k, rfl⟩ : ∃ m, k = m + 1 := ⟨k - 1, by omega⟩
    obtain ⟨l', e, hl', h1, h2⟩ := ih k (l.set i.toNat v) (v + 1) (i + 1) (by simpa using hl) (by omega) (by omega) (by omega) (by omega) (by omega)
    refine ⟨l', ?_, hl', fun j hj hj2 => ?_, fun j hj hj2 => ?_⟩
    · simp only [laws_markInt64S.l0]; rw [if_pos (by omega), if_pos h0, L_w (x := v + 1) (by omega), L_w (x := i + 1) (by omega), e]
      congr 2; omega
    · rw [h1 j hj (by omega)]
      unfold rd
      rw [List.getD_eq_getElem?_getD, List.getD_eq_getElem?_getD, List.getElem?_set_ne (by omega)]
    · by_cases e2 : j = i
      · subst e2
        rw [h1 j (by omega) (by omega)]
        unfold rd
        rw [List.getD_eq_getElem?_getD, List.getElem?_set_self (by omega)]
        simp
      · rw [h2 j (by omega) hj2]; omega

theorem L_heldI (n : Nat) (hn : n ≤ 140737488351232) (l : List Int) (hl : l.length = n) (d : Nat) : ∀ (k : Nat) (v i : Int), 0 ≤ i → i + d = n → d < k → 0 ≤ v → v ≤ 281474976702464 + i → (∀ j : Int, i ≤ j → j < n → rd l j = v + (j - i)) →
    laws_heldInt64S.l0 k l v i = some (v + d) := by
  induction d with
  | zero =>
    intro k v i h0 hd hk hv hv2 h
    obtain ⟨k, rfl⟩ : ∃ m, k = m + 1 := ⟨k - 1, by omega⟩
    simp only [laws_heldInt64S.l0]; rw [if_neg (by omega)]; simp
  | succ d ih =>
    intro k v i h0 hd hk hv hv2 h
    obtain ⟨k, rfl⟩ : ∃ m, k = m + 1 := ⟨k - 1, by omega⟩
    have h1 := h i (by omega) (by omega)
    simp only [laws_heldInt64S.l0]; rw [if_pos (by omega), if_pos h0, if_pos (by omega), L_w (x := v + 1) (by omega), L_w (x := i + 1) (by omega),
      ih k (v + 1) (i + 1) (by omega) (by omega) (by omega) (by omega) (by omega) (fun j hj hj2 => by rw [h j (by omega) hj2]; omega)]
    congr 1; omega

theorem L_markHeld (l : List Int) (hn : l.length ≤ 140737488351232) : ∃ l', (∀ k, l.length < k → laws_markInt64S.f k l 1 = some (1 + (l.length : Int), l')) ∧ (∀ k, l.length < k → laws_heldInt64S.f k l' 1 = some (1 + (l.length : Int))) := by
  obtain ⟨l', e, hl', _, h2⟩ := L_markI l.length hn l.length (l.length + 1) l 1 0 rfl (by omega) (by omega) (by omega) (by omega) (by omega)
  refine ⟨l', fun k hk => ?_, fun k hk => ?_⟩
  · obtain ⟨l2, e2, hl2, _, h3⟩ := L_markI l.length hn l.length k l 1 0 rfl (by omega) (by omega) hk (by omega) (by omega)
    unfold laws_markInt64S.f
    rw [e2]
    have : l2 = l' := by
      apply List.ext_getElem (by omega)
      intro j hj hj'
      have a := h3 j (by omega) (by omega)
      have b := h2 j (by omega) (by omega)
      unfold rd at a b
      rw [List.getD_eq_getElem?_getD] at a b
      simp only [Int.toNat_natCast] at a b
      rw [List.getElem?_eq_getElem hj] at a
      rw [List.getElem?_eq_getElem hj'] at b
      simp at a b
      omega
    rw [this]
  · unfold laws_heldInt64S.f
    exact L_heldI l.length hn l' hl' l.length k 1 0 (by omega) (by omega) hk (by omega) (by omega) h2

theorem L_szCurve (l : List S103) (a : Int) (ha : 0 ≤ a ∧ a ≤ 1048576) (h : l.length * 4 ≤ 140737488351232) : laws_szCurve.f l a = some (if a < (l.length : Int) then (-1 : Int) else a - (l.length : Int)) := by
  unfold laws_szCurve.f; rw [L_w (by omega)]
  by_cases h : a < (l.length : Int)
  · rw [if_pos (by omega), if_pos h]
  · rw [if_neg (by omega), if_neg h]

theorem L_rdLP {l : List S103} {i : Int} (h0 : 0 ≤ i) (h : i < l.length) : ∃ hi : i.toNat < l.length, rd_T103 l i = l[i.toNat]'hi :=
  ⟨by omega, by unfold rd_T103; rw [List.getD_eq_getElem?_getD, List.getElem?_eq_getElem (by omega)]; rfl⟩

theorem L_toCurveLoop (l : List S103) (hn : l.length ≤ 1048576) (d : Nat) : ∀ (k : Nat) (out : List S101) (i : Int), out.length = l.length → 0 ≤ i → i + d = l.length → d < k → out.take i.toNat = (l.map D_point).take i.toNat → laws_toCurve.l0 k l out i = some (l.map D_point) := by
  induction d with
  | zero =>
    intro k out i ho h0 hd hk ht
    obtain ⟨k, rfl⟩ : ∃ m, k = m + 1 := ⟨k - 1, by omega⟩
    simp only [laws_toCurve.l0]; rw [if_neg (by omega)]
    rw [List.take_of_length_le (by omega), List.take_of_length_le (by simp; omega)] at ht
    rw [ht]
  | succ d ih =>
    intro k out i ho h0 hd hk ht
    obtain ⟨k, rfl⟩ : ∃ m, k = m + 1 := ⟨k - 1, by omega⟩
    obtain ⟨hi, e⟩ := L_rdLP (l := l) (i := i) h0 (by omega)
    simp only [laws_toCurve.l0, laws_toPoint.f, Option.bind_some]; rw [if_pos (by omega), if_pos h0, if_pos (by omega), L_w (x := i + 1) (by omega)]
    refine ih k _ (i + 1) (by simpa using ho) (by omega) (by omega) (by omega) ?_
    rw [show (i + 1).toNat = i.toNat + 1 by omega, List.take_succ_eq_append_getElem (by simp; omega), List.take_succ_eq_append_getElem (by simpa using hi), List.getElem_set_self, List.take_set_of_le (by omega), ht, List.getElem_map, e]
    rfl

theorem L_toCurve (l : List S103) (hn : l.length ≤ 1048576) {k : Nat} (hk : l.length < k) : laws_toCurve.f k l = some (l.map D_point) := by
  unfold laws_toCurve.f
  rw [if_pos (by omega), if_pos (by omega)]
  exact L_toCurveLoop l hn l.length k _ 0 (by simp) (by omega) (by omega) hk (by simp)

theorem L_eqI (a : List Int) (hn : a.length ≤ 140737488351232) (d : Nat) : ∀ (k : Nat) (i : Int), 0 ≤ i → i + d = a.length → d < k → laws_eqInt64S.l0 k a a i = some true := by
  induction d with
  | zero =>
    intro k i h0 hd hk
    obtain ⟨k, rfl⟩ : ∃ m, k = m + 1 := ⟨k - 1, by omega⟩
    simp only [laws_eqInt64S.l0]; rw [if_neg (by omega)]
  | succ d ih =>
    intro k i h0 hd hk
    obtain ⟨k, rfl⟩ : ∃ m, k = m + 1 := ⟨k - 1, by omega⟩
    simp only [laws_eqInt64S.l0]; rw [if_pos (by omega), if_pos h0, L_w (x := i + 1) (by omega)]
    simp only [if_true]
    rw [if_pos (by omega)]
    exact ih k (i + 1) (by omega) (by omega) (by omega)

theorem L_eqInt64S (a : List Int) (hn : a.length ≤ 140737488351232) {k : Nat} (hk : a.length < k) : laws_eqInt64S.f k a a = some true := by
  unfold laws_eqInt64S.f; rw [if_pos rfl]; exact L_eqI a hn a.length k 0 (by omega) (by omega) hk

theorem L_eqCurve (l : List S101) (hn : l.length ≤ 140737488351232) {k : Nat} (hk : l.length < k) : laws_eqCurve.f k l l = some true := by
  have H : ∀ (d : Nat) (k : Nat) (i : Int), 0 ≤ i → i + d = l.length → d < k → laws_eqCurve.l0 k l l i = some true := by
    intro d
    induction d with
    | zero =>
      intro k i h0 hd hk
      obtain ⟨k, rfl⟩ : ∃ m, k = m + 1 := ⟨k - 1, by omega⟩
      simp only [laws_eqCurve.l0]; rw [if_neg (by omega)]
    | succ d ih =>
      intro k i h0 hd hk
      obtain ⟨k, rfl⟩ : ∃ m, k = m + 1 := ⟨k - 1, by omega⟩
      simp only [laws_eqCurve.l0, laws_eqPoint.f, if_true, Option.bind_some]; rw [if_pos (by omega), if_pos h0, if_pos (by omega), L_w (x := i + 1) (by omega)]
      exact ih k (i + 1) (by omega) (by omega) (by omega)
  unfold laws_eqCurve.f; rw [if_pos rfl]; exact H l.length k 0 (by omega) (by omega) hk

theorem L_markCurve (n : Nat) (hn : n ≤ 1048576) (d : Nat) : ∀ (k : Nat) (l : List S101) (v i : Int), l.length = n → 0 ≤ i → i + d = n → d < k → 0 ≤ v → v ≤ 1000000000 + 2 * i → ∃ l', laws_markCurve.l0 k l v i = some (v + 2 * d, l') := by
  induction d with
  | zero =>
    intro k l v i hl h0 hd hk hv hv2
    obtain ⟨k, rfl⟩ : ∃ m, k = m + 1 := ⟨k - 1, by omega⟩
    refine ⟨l, ?_⟩
    simp only [laws_markCurve.l0]; rw [if_neg (by omega)]; simp
  | succ d ih =>
    intro k l v i hl h0 hd hk hv hv2
    obtain ⟨k, rfl⟩ : ∃ m, k = m + 1 := ⟨k - 1, by omega⟩
    simp only [laws_markCurve.l0, Option.bind_some]
    rw [if_pos (by omega), if_pos h0, L_w (x := v + 1) (by omega), L_w (x := v + 1 + 1) (by omega), L_w (x := i + 1) (by omega)]
    rw [show v + 2 * ((d + 1 : Nat) : Int) = v + 1 + 1 + 2 * (d : Int) by omega]
    exact ih k _ (v + 1 + 1) (i + 1) (by simpa using hl) (by omega) (by omega) (by omega) (by omega) (by omega)

theorem L_markCurveF (l : List S101) (hn : l.length ≤ 1048576) (v : Int) (hv : 0 ≤ v ∧ v ≤ 1000000000) {k : Nat} (hk : l.length < k) : ∃ l', laws_markCurve.f k l v = some (v + 2 * l.length, l') := by
  obtain ⟨l', e⟩ := L_markCurve l.length hn l.length k l v 0 rfl (by omega) (by omega) hk (by omega) (by omega)
  unfold laws_markCurve.f
  exact ⟨l', e⟩


theorem FnExactConvertTable : ∀ (l0 : List S103) (l1 : List S103), (∀ x ∈ l0, -32768 ≤ x.f0 ∧ x.f0 ≤ 32767 ∧ -32768 ≤ x.f1 ∧ x.f1 ≤ 32767) → l0.length * 4 ≤ 140737488351232 → (∀ x ∈ l1, -32768 ≤ x.f0 ∧ x.f0 ≤ 32767 ∧ -32768 ≤ x.f1 ∧ x.f1 ≤ 32767) → l1.length * 4 ≤ 140737488351232 → ∃ k, laws_FnExactConvertTable.f k l0 l1 = some true := by
  intro l m h8 hl m8 ml
  have h16 := L_map16 l h8
  have m16 := L_map16 m m8
  obtain ⟨R, c, hR, e⟩ := L_table (l.map D_point) (m.map D_point) h16 (by simp; omega) m16 (by simp; omega)
  refine ⟨l.length + m.length + 500, ?_⟩
  have e' : ∀ k, l.length + m.length + 200 ≤ k → spec_ConvertTable.f k (l.map D_point) (m.map D_point) = some (R, c) ∧ impl_ConvertTable.f k (l.map D_point) (m.map D_point) = some (R, c) := fun k hk => e k (by simpa using hk)
  obtain ⟨l', h1, h2⟩ := L_markHeld R (by omega)
  unfold laws_FnExactConvertTable.f
  rw [L_szCurve l 1048576 (by omega) hl]
  simp only [Option.bind_some]
  by_cases h : (1048576 : Int) < (l.length : Int)
  · rw [if_pos h]; rfl
  · rw [if_neg h, if_neg (by omega), L_szCurve m _ (by omega) ml]
    simp only [Option.bind_some]
    by_cases h' : (1048576 : Int) - (l.length : Int) < (m.length : Int)
    · rw [if_pos h']; rfl
    · rw [if_neg h', if_neg (by omega), L_toCurve l (by omega) (by omega), L_toCurve m (by omega) (by omega)]
      simp only [Option.bind_some]
      rw [(e' _ (by omega)).1, (e' _ (by omega)).2]
      simp only [Option.bind_some]
      rw [L_eqInt64S R (by omega) (by omega)]
      simp only [Option.bind_some, if_true, bne_self_eq_false]
      simp only [laws_FnExactConvertTable.j0, Bool.false_eq_true, if_false]
      rw [L_toCurve l (by omega) (by omega), L_toCurve m (by omega) (by omega)]
      simp only [Option.bind_some]
      rw [L_eqCurve _ (by simp; omega) (by simp; omega), L_eqCurve _ (by simp; omega) (by simp; omega)]
      obtain ⟨la, ea⟩ := L_markCurveF (l.map D_point) (by simp; omega) 1 (by omega) (k := l.length + m.length + 499) (by simp; omega)
      obtain ⟨lb, eb⟩ := L_markCurveF (m.map D_point) (by simp; omega) (1 + 2 * ((l.map D_point).length : Int)) (by simp; omega) (k := l.length + m.length + 499) (by simp; omega)
      simp only [Option.bind_some, if_true]
      rw [ea]
      simp only [Option.bind_some]
      rw [eb]
      simp only [Option.bind_some]
      rw [if_neg (by omega), L_eqInt64S R (by omega) (by omega)]
      simp only [Option.bind_some, if_true, laws_FnExactConvertTable.j1, bne_self_eq_false, Bool.false_eq_true, if_false]
      rw [h1 _ (by omega)]
      simp only [Option.bind_some]
      rw [h2 _ (by omega)]
      simp only [Option.bind_some]
      rw [if_neg (by omega)]
      simp only [if_true]
      rw [L_toCurve l (by omega) (by omega), L_toCurve m (by omega) (by omega)]
      simp only [Option.bind_some]
      rw [(e' _ (by omega)).2]
      simp only [Option.bind_some]
      rw [L_eqInt64S R (by omega) (by omega)]
      simp only [Option.bind_some, if_true, laws_FnExactConvertTable.j2, bne_self_eq_false, Bool.false_eq_true, if_false]
      rw [h2 _ (by omega)]
      simp only [Option.bind_some]
      rw [if_neg (by omega)]
      simp only [if_true]

end Go.Proofs.Ytiaaibiodolcgaa.Pure
