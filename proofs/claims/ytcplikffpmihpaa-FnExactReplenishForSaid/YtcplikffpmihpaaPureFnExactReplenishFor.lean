/- The plain law of FnExactReplenishFor: the printed function of the law answers true for all arguments within their kinds' bounds. No condition besides. -/
import Derived.Test.YtcplikffpmihpaaQx22
namespace Go.Proofs.Ytcplikffpmihpaa.Pure
open Go.RowKit Go.Proofs.Ytcplikffpmihpaa.Q Go.Proofs.YtcplikffpmihpaaW.PrintWords Go.Proofs.YtcplikffpmihpaaW.PrintLast Go.Proofs.YtcplikffpmihpaaW.PrintMore
set_option linter.unusedVariables false
set_option linter.unusedSimpArgs false
def D_dev (a b c d : Int) : Prop := 100 ≤ a ∧ a ≤ 100000 ∧ 1 ≤ b ∧ b ≤ 100000 ∧ 10 ≤ c ∧ c ≤ 40 ∧ 1 ≤ d ∧ d ≤ 10
instance (a b c d : Int) : Decidable (D_dev a b c d) := by unfold D_dev; infer_instance

def D_vol (p v u g : Int) : Prop := 1 ≤ v ∧ v ≤ 20000 ∧ 0 ≤ u ∧ u ≤ 100000000 ∧ 0 ≤ g ∧ g ≤ 100000 ∧ 1000 * u ≤ v * p
instance (p v u g : Int) : Decidable (D_vol p v u g) := by unfold D_vol; infer_instance

def D_strength (per keeps vol used age : Int) : Int := if age ≥ keeps then 0 else 1000 * (vol * per - 1000 * used) / (vol * per) * (keeps - age) / keeps

def D_fill (v u g m : Int) : Int × Int × Int := (v, u * (v - m) / v, g * (v - m) / v)

theorem L_w {x : Int} (h : -9223372036854775808 ≤ x ∧ x ≤ 9223372036854775807) : wrap64 x = x := by unfold wrap64; omega

theorem L_sd {p q : Prop} [Decidable p] [Decidable q] (h : p ↔ q) : some (decide p) = some (decide q) := by rw [decide_eq_decide.mpr h]

theorem L_sf {q : Prop} [Decidable q] (h : ¬ q) : some false = some (decide q) := by rw [decide_eq_false h]

theorem L_in (a b c : Int) : spec_l00In.f a b c = some (decide (b ≤ a ∧ a ≤ c)) := by
  unfold spec_l00In.f
  split
  · exact L_sd (by omega)
  · exact L_sf (by omega)

theorem L_specDev {a b c d : Int} (hc : -128 ≤ c ∧ c ≤ 127) (hd : -128 ≤ d ∧ d ≤ 127) : spec_l04Developer.f a b c d = some (decide (D_dev a b c d)) := by
  unfold spec_l04Developer.f
  rw [L_w (x := c) (by omega), L_w (x := d) (by omega)]
  simp only [L_in, Option.bind_some, decide_eq_true_eq]
  unfold D_dev
  repeat' split
  all_goals first | exact L_sd (by omega) | exact L_sf (by omega)

theorem L_mulb {x y X Y : Int} (h : 0 ≤ x) (hx : x ≤ X) (k : 0 ≤ y) (ky : y ≤ Y) : 0 ≤ x * y ∧ x * y ≤ X * Y :=
  ⟨Int.mul_nonneg h k, Int.mul_le_mul hx ky k (Int.le_trans h hx)⟩

theorem L_specOk {a b c d v u g : Int} (hc : -128 ≤ c ∧ c ≤ 127) (hd : -128 ≤ d ∧ d ≤ 127) : spec_l04Ok.f a b c d v u g = some (decide (D_dev a b c d ∧ D_vol a v u g)) := by
  unfold spec_l04Ok.f
  rw [L_specDev hc hd]
  simp only [L_in, Option.bind_some, decide_eq_true_eq]
  by_cases hD : D_dev a b c d
  · have hDD := hD
    unfold D_dev at hDD
    rw [if_pos hD]
    by_cases h1 : 1 ≤ v ∧ v ≤ 20000
    · by_cases h2 : 0 ≤ u ∧ u ≤ 100000000
      · by_cases h3 : 0 ≤ g ∧ g ≤ 100000
        · rw [if_pos h1, if_pos h2, if_pos h3]
          have := L_mulb (x := v) (y := a) (X := 20000) (Y := 100000) (by omega) (by omega) (by omega) (by omega)
          rw [L_w (x := 1000 * u) (by omega), L_w (x := v * a) (by omega)]
          refine L_sd ?_
          unfold D_vol
          constructor
          · intro h; exact ⟨hD, by omega⟩
          · intro h; omega
        · rw [if_pos h1, if_pos h2, if_neg h3]; refine L_sf ?_; unfold D_vol; omega
      · rw [if_pos h1, if_neg h2]; refine L_sf ?_; unfold D_vol; omega
    · rw [if_neg h1]; refine L_sf ?_; unfold D_vol; omega
  · rw [if_neg hD]; exact L_sf (fun h => hD h.1)

theorem L_within (a b c : Int) : impl_within.f a b c = some (decide (b ≤ a ∧ a ≤ c)) := by
  unfold impl_within.f
  split
  · exact L_sd (by omega)
  · exact L_sf (by omega)

theorem L_implDev {a b c d : Int} (hc : -128 ≤ c ∧ c ≤ 127) (hd : -128 ≤ d ∧ d ≤ 127) : impl_ValidDeveloper.f a b c d = some (decide (D_dev a b c d)) := by
  unfold impl_ValidDeveloper.f
  rw [L_w (x := c) (by omega), L_w (x := d) (by omega)]
  simp only [L_within, Option.bind_some, decide_eq_true_eq]
  unfold D_dev
  repeat' split
  all_goals first | exact L_sd (by omega) | exact L_sf (by omega)

theorem L_isVolume (v : Int) : impl_isVolume.f v = some (decide (1 ≤ v ∧ v ≤ 20000)) := by
  unfold impl_isVolume.f; rw [L_within]; rfl

theorem L_isBath {a b c d v u g : Int} (hD : D_dev a b c d) : impl_isBath.f a b c d v u g = some (decide (D_vol a v u g)) := by
  unfold impl_isBath.f
  simp only [L_isVolume, L_within, Option.bind_some, decide_eq_true_eq]
  have hDD := hD
  unfold D_dev at hDD
  by_cases h1 : 1 ≤ v ∧ v ≤ 20000
  · by_cases h2 : 0 ≤ u ∧ u ≤ 100000000
    · by_cases h3 : 0 ≤ g ∧ g ≤ 100000
      · rw [if_pos h1, if_pos h2, if_pos h3]
        have := L_mulb (x := v) (y := a) (X := 20000) (Y := 100000) (by omega) (by omega) (by omega) (by omega)
        rw [L_w (x := 1000 * u) (by omega), L_w (x := v * a) (by omega)]
        refine L_sd ?_
        unfold D_vol
        constructor
        · intro h; omega
        · intro h; omega
      · rw [if_pos h1, if_pos h2, if_neg h3]; refine L_sf ?_; unfold D_vol; omega
    · rw [if_pos h1, if_neg h2]; refine L_sf ?_; unfold D_vol; omega
  · rw [if_neg h1]; refine L_sf ?_; unfold D_vol; omega

theorem L_implBath {a b c d v u g : Int} (hc : -128 ≤ c ∧ c ≤ 127) (hd : -128 ≤ d ∧ d ≤ 127) : impl_ValidBath.f a b c d v u g = some (decide (D_dev a b c d ∧ D_vol a v u g)) := by
  unfold impl_ValidBath.f
  rw [L_implDev hc hd]
  simp only [Option.bind_some, decide_eq_true_eq]
  by_cases hD : D_dev a b c d
  · rw [if_pos hD, L_isBath hD]
    exact L_sd (by simp [hD])
  · rw [if_neg hD]; exact L_sf (fun h => hD h.1)

def D_fillFor (p k v u g s : Int) : Nat → Int → Int
  | 0, m => m
  | e + 1, m => if D_strength p k (D_fill v u g m).1 (D_fill v u g m).2.1 (D_fill v u g m).2.2 < s then D_fillFor p k v u g s e (m + 1) else m

theorem L_fullStrength {p k v u g c d : Int} (hD : D_dev p k c d) (hV : D_vol p v u g) : D_strength p k (D_fill v u g v).1 (D_fill v u g v).2.1 (D_fill v u g v).2.2 = 1000 := by
  unfold D_dev at hD
  unfold D_vol at hV
  have h0 : 0 < v * p := Int.mul_pos (by omega) (by omega)
  unfold D_fill D_strength
  simp only [Int.sub_self, Int.mul_zero, Int.zero_ediv, Int.sub_zero]
  rw [if_neg (by omega), Int.mul_ediv_cancel _ (by omega), Int.mul_ediv_cancel _ (by omega)]

theorem L_quot {a b q : Int} (ha : 0 ≤ a) (hb : 0 < b) (h : a ≤ q * b) : 0 ≤ a / b ∧ a / b ≤ q := by
  refine ⟨Int.ediv_nonneg ha (by omega), ?_⟩
  have := Int.ediv_le_ediv hb h
  rwa [Int.mul_ediv_cancel _ (by omega)] at this

theorem L_fillb {x v m X : Int} (hx : 0 ≤ x ∧ x ≤ X) (hv : 1 ≤ v ∧ v ≤ 20000) (hm : 0 ≤ m ∧ m ≤ v) : (0 ≤ x * (v - m) ∧ x * (v - m) ≤ X * 20000) ∧ 0 ≤ x * (v - m) / v ∧ x * (v - m) / v ≤ x := by
  have h1 := L_mulb (x := x) (y := v - m) (X := X) (Y := 20000) hx.1 hx.2 (by omega) (by omega)
  have h2 := L_mulb (x := x) (y := v - m) (X := x) (Y := v) hx.1 (by omega) (by omega) (by omega)
  exact ⟨h1, L_quot h1.1 (by omega) h2.2⟩

theorem L_fillVol {p v u g m : Int} (h : D_vol p v u g) (hm : 0 ≤ m ∧ m ≤ v) : D_vol p (D_fill v u g m).1 (D_fill v u g m).2.1 (D_fill v u g m).2.2 := by
  unfold D_vol at h ⊢
  have h1 := L_fillb (x := u) (v := v) (m := m) (X := 100000000) (by omega) (by omega) hm
  have h2 := L_fillb (x := g) (v := v) (m := m) (X := 100000) (by omega) (by omega) hm
  unfold D_fill
  dsimp only
  omega

theorem L_specFill {p v u g m : Int} (h : D_vol p v u g) (hm : 0 ≤ m ∧ m ≤ v) : spec_l04Fill.f v u g m = some (D_fill v u g m) := by
  unfold D_vol at h
  have h1 := L_fillb (x := u) (v := v) (m := m) (X := 100000000) (by omega) (by omega) hm
  have h2 := L_fillb (x := g) (v := v) (m := m) (X := 100000) (by omega) (by omega) hm
  unfold spec_l04Fill.f D_fill
  rw [if_neg (by omega), L_w (x := v - m) (by omega), L_w (x := u * (v - m)) (by omega), L_w (x := g * (v - m)) (by omega), Int.tdiv_eq_ediv_of_nonneg h1.1.1, Int.tdiv_eq_ediv_of_nonneg h2.1.1,
    L_w (x := u * (v - m) / v) (by omega), L_w (x := g * (v - m) / v) (by omega)]

theorem L_implFill {p v u g m : Int} (h : D_vol p v u g) (hm : 0 ≤ m ∧ m ≤ v) : impl_Bath_replenished.f v u g m = some (D_fill v u g m) := by
  unfold D_vol at h
  have h1 := L_fillb (x := u) (v := v) (m := m) (X := 100000000) (by omega) (by omega) hm
  have h2 := L_fillb (x := g) (v := v) (m := m) (X := 100000) (by omega) (by omega) hm
  unfold impl_Bath_replenished.f D_fill
  rw [if_neg (by omega), L_w (x := v - m) (by omega), L_w (x := u * (v - m)) (by omega), L_w (x := g * (v - m)) (by omega), Int.tdiv_eq_ediv_of_nonneg h1.1.1, Int.tdiv_eq_ediv_of_nonneg h2.1.1,
    L_w (x := u * (v - m) / v) (by omega), L_w (x := g * (v - m) / v) (by omega)]

theorem L_strengthParts {p k v u g : Int} {a b c d : Int} (hD : D_dev p k c d) (hV : D_vol p v u g) (hg : g < k) :
    (0 < v * p ∧ v * p ≤ 2000000000) ∧ (0 ≤ 1000 * (v * p - 1000 * u) / (v * p) ∧ 1000 * (v * p - 1000 * u) / (v * p) ≤ 1000) ∧
    (0 ≤ 1000 * (v * p - 1000 * u) / (v * p) * (k - g) ∧ 1000 * (v * p - 1000 * u) / (v * p) * (k - g) ≤ 1000 * k) := by
  unfold D_dev at hD
  unfold D_vol at hV
  have h1 := L_mulb (x := v) (y := p) (X := 20000) (Y := 100000) (by omega) (by omega) (by omega) (by omega)
  have h2 : 0 < v * p := Int.mul_pos (by omega) (by omega)
  have h3 := L_quot (a := 1000 * (v * p - 1000 * u)) (b := v * p) (q := 1000) (by omega) h2 (by omega)
  have h4 := L_mulb (x := 1000 * (v * p - 1000 * u) / (v * p)) (y := k - g) (X := 1000) (Y := k) h3.1 h3.2 (by omega) (by omega)
  exact ⟨⟨h2, by omega⟩, h3, h4⟩

theorem L_specStrength {p k v u g c d : Int} (hD : D_dev p k c d) (hV : D_vol p v u g) : spec_l04Strength.f p k c d v u g = some (D_strength p k v u g) := by
  unfold spec_l04Strength.f D_strength
  by_cases hg : g ≥ k
  · rw [if_pos hg, if_pos hg]
  · rw [if_neg hg, if_neg hg]
    obtain ⟨h1, h2, h3⟩ := L_strengthParts (a := 0) (b := 0) hD hV (by omega)
    unfold D_dev at hD
    unfold D_vol at hV
    have h4 := L_quot h3.1 (show 0 < k by omega) h3.2
    rw [L_w (x := v * p) (by omega), if_neg (by omega), if_neg (by omega), L_w (x := 1000 * u) (by omega), L_w (x := v * p - 1000 * u) (by omega), L_w (x := 1000 * (v * p - 1000 * u)) (by omega),
      Int.tdiv_eq_ediv_of_nonneg (a := 1000 * (v * p - 1000 * u)) (by omega), L_w (x := 1000 * (v * p - 1000 * u) / (v * p)) (by omega), L_w (x := k - g) (by omega),
      L_w (x := 1000 * (v * p - 1000 * u) / (v * p) * (k - g)) (by omega), Int.tdiv_eq_ediv_of_nonneg h3.1, L_w (by omega)]

theorem L_implStrength {p k v u g c d : Int} (hD : D_dev p k c d) (hV : D_vol p v u g) : impl_Bath_strength.f v u g p k c d = some (D_strength p k v u g) := by
  unfold impl_Bath_strength.f D_strength
  have hDD := hD
  have hVV := hV
  unfold D_dev at hDD
  unfold D_vol at hVV
  have h1 := L_mulb (x := v) (y := p) (X := 20000) (Y := 100000) (by omega) (by omega) (by omega) (by omega)
  have h0 : 0 < v * p := Int.mul_pos (by omega) (by omega)
  have h3 := L_quot (a := 1000 * (v * p - 1000 * u)) (b := v * p) (q := 1000) (by omega) h0 (by omega)
  rw [L_w (x := v * p) (by omega), if_neg (by omega), if_neg (by omega), L_w (x := 1000 * u) (by omega), L_w (x := v * p - 1000 * u) (by omega), L_w (x := 1000 * (v * p - 1000 * u)) (by omega),
      Int.tdiv_eq_ediv_of_nonneg (a := 1000 * (v * p - 1000 * u)) (by omega), L_w (x := 1000 * (v * p - 1000 * u) / (v * p)) (by omega), L_w (x := k - g) (by omega)]
  by_cases hg : g ≥ k
  · rw [if_pos hg, show mx 0 (k - g) = 0 by unfold mx; omega, Int.mul_zero]
    simp [wrap64]
  · obtain ⟨_, h2, h3⟩ := L_strengthParts (a := 0) (b := 0) hD hV (by omega)
    have h4 := L_quot h3.1 (show 0 < k by omega) h3.2
    rw [if_neg hg, show mx 0 (k - g) = k - g by unfold mx; omega, L_w (x := 1000 * (v * p - 1000 * u) / (v * p) * (k - g)) (by omega), Int.tdiv_eq_ediv_of_nonneg h3.1, L_w (by omega)]

theorem L_fillForLoops {p k v u g c d s : Int} (hD : D_dev p k c d) (hV : D_vol p v u g) (hs : 0 ≤ s ∧ s ≤ 1000) (e : Nat) : ∀ (n n' : Nat) (m : Int), 0 ≤ m → m + e = v → e < n → e < n' →
    spec_ReplenishFor.l0 n s m p k c d v u g = some (D_fillFor p k v u g s e m, 0) ∧
    impl_Bath_leastFor.lf (fun x y z => (impl_Bath_strength.f x y z p k c d).bind fun r => some (decide (r ≥ s))) v u g n' m = some (D_fillFor p k v u g s e m) ∧
    m ≤ D_fillFor p k v u g s e m ∧ D_fillFor p k v u g s e m ≤ v ∧
    D_strength p k (D_fill v u g (D_fillFor p k v u g s e m)).1 (D_fill v u g (D_fillFor p k v u g s e m)).2.1 (D_fill v u g (D_fillFor p k v u g s e m)).2.2 ≥ s ∧
    (∀ j, m ≤ j → j < D_fillFor p k v u g s e m → D_strength p k (D_fill v u g j).1 (D_fill v u g j).2.1 (D_fill v u g j).2.2 < s) := by
  have hVV := hV
  unfold D_vol at hVV
  induction e with
  | zero =>
    intro n n' m h0 hm hn hn'
    obtain ⟨n, rfl⟩ : ∃ q, n = q + 1 := ⟨n - 1, by omega⟩
    obtain ⟨n', rfl⟩ : ∃ q, n' = q + 1 := ⟨n' - 1, by omega⟩
    obtain rfl : m = v := by omega
    have hf := L_fullStrength hD hV
    have hfv := L_fillVol (m := m) hV (by omega)
    simp only [spec_ReplenishFor.l0, impl_Bath_leastFor.lf, D_fillFor]
    rw [L_specFill hV (by omega), L_implFill hV (by omega)]
    simp only [Option.bind_some]
    rw [L_specStrength hD hfv, L_implStrength hD hfv]
    simp only [Option.bind_some, decide_eq_true_eq]
    rw [if_neg (by omega), if_pos (by omega), if_pos (by omega)]
    exact ⟨rfl, rfl, by omega, by omega, by omega, fun j h1 h2 => by omega⟩
  | succ e ih =>
    intro n n' m h0 hm hn hn'
    obtain ⟨n, rfl⟩ : ∃ q, n = q + 1 := ⟨n - 1, by omega⟩
    obtain ⟨n', rfl⟩ : ∃ q, n' = q + 1 := ⟨n' - 1, by omega⟩
    have hfv := L_fillVol (m := m) hV (by omega)
    obtain ⟨a1, a2, a3, a4, a5, a6⟩ := ih n n' (m + 1) (by omega) (by omega) (by omega) (by omega)
    simp only [spec_ReplenishFor.l0, impl_Bath_leastFor.lf, D_fillFor]
    rw [L_specFill hV (by omega), L_implFill hV (by omega)]
    simp only [Option.bind_some]
    rw [L_specStrength hD hfv, L_implStrength hD hfv]
    simp only [Option.bind_some, decide_eq_true_eq]
    by_cases h : D_strength p k (D_fill v u g m).1 (D_fill v u g m).2.1 (D_fill v u g m).2.2 < s
    · rw [if_pos h, if_pos h, if_pos (by omega), if_neg (by omega), L_w (x := m + 1) (by omega)]
      refine ⟨a1, a2, by omega, a4, a5, fun j h1 h2 => ?_⟩
      by_cases e : j = m
      · rw [e]; exact h
      · exact a6 j (by omega) h2
    · rw [if_neg h, if_neg h, if_pos (by omega), if_pos (by omega)]
      exact ⟨rfl, rfl, by omega, by omega, by omega, fun j h1 h2 => by omega⟩

theorem L_replenishFor {p k c d v u g s : Int} (hc : -128 ≤ c ∧ c ≤ 127) (hd : -128 ≤ d ∧ d ≤ 127) {n : Nat} (hn : 20002 ≤ n) :
    ∃ r, spec_ReplenishFor.f n p k c d v u g s = some r ∧ impl_ReplenishFor.f p k c d v u g s = some r ∧
      (D_dev p k c d → D_vol p v u g → (0 ≤ s ∧ s ≤ 1000) → r.2 = 0 ∧ 0 ≤ r.1 ∧ r.1 ≤ v ∧ D_strength p k (D_fill v u g r.1).1 (D_fill v u g r.1).2.1 (D_fill v u g r.1).2.2 ≥ s ∧
        (∀ j, 0 ≤ j → j < r.1 → D_strength p k (D_fill v u g j).1 (D_fill v u g j).2.1 (D_fill v u g j).2.2 < s)) := by
  unfold spec_ReplenishFor.f impl_ReplenishFor.f impl_isStrength.f
  rw [L_specOk hc hd, L_implBath hc hd, L_in, L_within]
  simp only [Option.bind_some, decide_eq_true_eq]
  by_cases h : D_dev p k c d ∧ D_vol p v u g
  · rw [if_pos h, if_pos h]
    by_cases h1 : 0 ≤ s ∧ s ≤ 1000
    · rw [if_pos h1, if_pos h1]
      have hv := h.2
      unfold D_vol at hv
      obtain ⟨a1, a2, a3, a4, a5, a6⟩ := L_fillForLoops h.1 h.2 h1 v.toNat n (v + 2).toNat 0 (by omega) (by omega) (by omega) (by omega)
      rw [a1, a2]
      exact ⟨_, rfl, rfl, fun _ _ _ => ⟨rfl, a3, a4, a5, a6⟩⟩
    · rw [if_neg h1, if_neg h1]
      exact ⟨_, rfl, rfl, fun _ _ x => absurd x h1⟩
  · rw [if_neg h, if_neg h]
    exact ⟨_, rfl, rfl, fun x y => absurd ⟨x, y⟩ h⟩


theorem FnExactReplenishFor : ∀ (a0_0 : Int) (a0_1 : Int) (a0_2 : Int) (a0_3 : Int) (a1_0 : Int) (a1_1 : Int) (a1_2 : Int) (a2 : Int), -9223372036854775808 ≤ a0_0 → a0_0 ≤ 9223372036854775807 → -9223372036854775808 ≤ a0_1 → a0_1 ≤ 9223372036854775807 → -128 ≤ a0_2 → a0_2 ≤ 127 → -128 ≤ a0_3 → a0_3 ≤ 127 → -9223372036854775808 ≤ a1_0 → a1_0 ≤ 9223372036854775807 → -9223372036854775808 ≤ a1_1 → a1_1 ≤ 9223372036854775807 → -9223372036854775808 ≤ a1_2 → a1_2 ≤ 9223372036854775807 → -9223372036854775808 ≤ a2 → a2 ≤ 9223372036854775807 → ∃ k, laws_FnExactReplenishFor.f k a0_0 a0_1 a0_2 a0_3 a1_0 a1_1 a1_2 a2 = some true := by
  intro p k c d v u g s _ _ _ _ hc hc' hd hd' _ _ _ _ _ _ _ _
  refine ⟨20100, ?_⟩
  unfold laws_FnExactReplenishFor.f laws_toDeveloper.f laws_toBath.f
  simp only [Option.bind_some]
  obtain ⟨r, e1, e2, _⟩ := L_replenishFor (p := p) (k := k) (v := v) (u := u) (g := g) (s := s) ⟨hc, hc'⟩ ⟨hd, hd'⟩ (n := 20100) (by omega)
  rw [e1, e2]
  simp

end Go.Proofs.Ytcplikffpmihpaa.Pure
