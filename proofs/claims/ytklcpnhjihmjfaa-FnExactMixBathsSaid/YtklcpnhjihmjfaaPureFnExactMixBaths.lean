/- The plain law of FnExactMixBaths: the printed function of the law answers true for all arguments within their kinds' bounds. No condition besides. -/
import Derived.Test.YtklcpnhjihmjfaaQx24
namespace Go.Proofs.Ytklcpnhjihmjfaa.Pure
open Go.RowKit Go.Proofs.Ytklcpnhjihmjfaa.Q Go.Proofs.YtklcpnhjihmjfaaW.PrintWords Go.Proofs.YtklcpnhjihmjfaaW.PrintLast Go.Proofs.YtklcpnhjihmjfaaW.PrintMore
set_option linter.unusedVariables false
set_option linter.unusedSimpArgs false
def D_dev (a b c d : Int) : Prop := 100 ≤ a ∧ a ≤ 100000 ∧ 1 ≤ b ∧ b ≤ 100000 ∧ 10 ≤ c ∧ c ≤ 40 ∧ 1 ≤ d ∧ d ≤ 10
instance (a b c d : Int) : Decidable (D_dev a b c d) := by unfold D_dev; infer_instance

def D_vol (p v u g : Int) : Prop := 1 ≤ v ∧ v ≤ 20000 ∧ 0 ≤ u ∧ u ≤ 100000000 ∧ 0 ≤ g ∧ g ≤ 100000 ∧ 1000 * u ≤ v * p
instance (p v u g : Int) : Decidable (D_vol p v u g) := by unfold D_vol; infer_instance

theorem L_w {x : Int} (h : -9223372036854775808 ≤ x ∧ x ≤ 9223372036854775807) : wrap64 x = x := by unfold wrap64; omega

theorem L_sd {p q : Prop} [Decidable p] [Decidable q] (h : p ↔ q) : some (decide p) = some (decide q) := by rw [decide_eq_decide.mpr h]

theorem L_sf {q : Prop} [Decidable q] (h : ¬ q) : some false = some (decide q) := by rw [decide_eq_false h]

theorem L_in (a b c : Int) : spec_l00In.f a b c = some (decide (b ≤ a ∧ a ≤ c)) := by
  unfold spec_l00In.f
  split
  · exact L_sd (by omega)
  · exact L_sf (by omega)

theorem L_specDev {a b c d : Int} (hc : -128 ≤ c ∧ c ≤ 127) (hd : -128 ≤ d ∧ d ≤ 127) : spec_l04Developer.f a b c d = some (decide (D_dev a b c d)) := by
  unfold spec_l04Developer.f
  rw [L_w (x := c) (by omega), L_w (x := d) (by omega)]
  simp only [L_in, Option.bind_some, decide_eq_true_eq]
  unfold D_dev
  repeat' split
  all_goals first | exact L_sd (by omega) | exact L_sf (by omega)

theorem L_mulb {x y X Y : Int} (h : 0 ≤ x) (hx : x ≤ X) (k : 0 ≤ y) (ky : y ≤ Y) : 0 ≤ x * y ∧ x * y ≤ X * Y :=
  ⟨Int.mul_nonneg h k, Int.mul_le_mul hx ky k (Int.le_trans h hx)⟩

theorem L_specOk {a b c d v u g : Int} (hc : -128 ≤ c ∧ c ≤ 127) (hd : -128 ≤ d ∧ d ≤ 127) : spec_l04Ok.f a b c d v u g = some (decide (D_dev a b c d ∧ D_vol a v u g)) := by
  unfold spec_l04Ok.f
  rw [L_specDev hc hd]
  simp only [L_in, Option.bind_some, decide_eq_true_eq]
  by_cases hD : D_dev a b c d
  · have hDD := hD
    unfold D_dev at hDD
    rw [if_pos hD]
    by_cases h1 : 1 ≤ v ∧ v ≤ 20000
    · by_cases h2 : 0 ≤ u ∧ u ≤ 100000000
      · by_cases h3 : 0 ≤ g ∧ g ≤ 100000
        · rw [if_pos h1, if_pos h2, if_pos h3]
          have := L_mulb (x := v) (y := a) (X := 20000) (Y := 100000) (by omega) (by omega) (by omega) (by omega)
          rw [L_w (x := 1000 * u) (by omega), L_w (x := v * a) (by omega)]
          refine L_sd ?_
          unfold D_vol
          constructor
          · intro h; exact ⟨hD, by omega⟩
          · intro h; omega
        · rw [if_pos h1, if_pos h2, if_neg h3]; refine L_sf ?_; unfold D_vol; omega
      · rw [if_pos h1, if_neg h2]; refine L_sf ?_; unfold D_vol; omega
    · rw [if_neg h1]; refine L_sf ?_; unfold D_vol; omega
  · rw [if_neg hD]; exact L_sf (fun h => hD h.1)

theorem L_within (a b c : Int) : impl_within.f a b c = some (decide (b ≤ a ∧ a ≤ c)) := by
  unfold impl_within.f
  split
  · exact L_sd (by omega)
  · exact L_sf (by omega)

theorem L_implDev {a b c d : Int} (hc : -128 ≤ c ∧ c ≤ 127) (hd : -128 ≤ d ∧ d ≤ 127) : impl_ValidDeveloper.f a b c d = some (decide (D_dev a b c d)) := by
  unfold impl_ValidDeveloper.f
  rw [L_w (x := c) (by omega), L_w (x := d) (by omega)]
  simp only [L_within, Option.bind_some, decide_eq_true_eq]
  unfold D_dev
  repeat' split
  all_goals first | exact L_sd (by omega) | exact L_sf (by omega)

theorem L_isVolume (v : Int) : impl_isVolume.f v = some (decide (1 ≤ v ∧ v ≤ 20000)) := by
  unfold impl_isVolume.f; rw [L_within]; rfl

theorem L_isBath {a b c d v u g : Int} (hD : D_dev a b c d) : impl_isBath.f a b c d v u g = some (decide (D_vol a v u g)) := by
  unfold impl_isBath.f
  simp only [L_isVolume, L_within, Option.bind_some, decide_eq_true_eq]
  have hDD := hD
  unfold D_dev at hDD
  by_cases h1 : 1 ≤ v ∧ v ≤ 20000
  · by_cases h2 : 0 ≤ u ∧ u ≤ 100000000
    · by_cases h3 : 0 ≤ g ∧ g ≤ 100000
      · rw [if_pos h1, if_pos h2, if_pos h3]
        have := L_mulb (x := v) (y := a) (X := 20000) (Y := 100000) (by omega) (by omega) (by omega) (by omega)
        rw [L_w (x := 1000 * u) (by omega), L_w (x := v * a) (by omega)]
        refine L_sd ?_
        unfold D_vol
        constructor
        · intro h; omega
        · intro h; omega
      · rw [if_pos h1, if_pos h2, if_neg h3]; refine L_sf ?_; unfold D_vol; omega
    · rw [if_pos h1, if_neg h2]; refine L_sf ?_; unfold D_vol; omega
  · rw [if_neg h1]; refine L_sf ?_; unfold D_vol; omega

theorem L_implBath {a b c d v u g : Int} (hc : -128 ≤ c ∧ c ≤ 127) (hd : -128 ≤ d ∧ d ≤ 127) : impl_ValidBath.f a b c d v u g = some (decide (D_dev a b c d ∧ D_vol a v u g)) := by
  unfold impl_ValidBath.f
  rw [L_implDev hc hd]
  simp only [Option.bind_some, decide_eq_true_eq]
  by_cases hD : D_dev a b c d
  · rw [if_pos hD, L_isBath hD]
    exact L_sd (by simp [hD])
  · rw [if_neg hD]; exact L_sf (fun h => hD h.1)

theorem L_st {q : Prop} [Decidable q] (h : q) : some true = some (decide q) := by rw [decide_eq_true h]

theorem L_eqBath (a b c d e f : Int) : laws_eqBath.f a b c d e f = some (decide (a = d ∧ b = e ∧ c = f)) := by
  unfold laws_eqBath.f
  repeat' split
  all_goals first | exact L_st (by omega) | exact L_sf (by omega)

theorem FnExactMixBaths : ∀ (a0_0 : Int) (a0_1 : Int) (a0_2 : Int) (a0_3 : Int) (a1_0 : Int) (a1_1 : Int) (a1_2 : Int) (a2_0 : Int) (a2_1 : Int) (a2_2 : Int), -9223372036854775808 ≤ a0_0 → a0_0 ≤ 9223372036854775807 → -9223372036854775808 ≤ a0_1 → a0_1 ≤ 9223372036854775807 → -128 ≤ a0_2 → a0_2 ≤ 127 → -128 ≤ a0_3 → a0_3 ≤ 127 → -9223372036854775808 ≤ a1_0 → a1_0 ≤ 9223372036854775807 → -9223372036854775808 ≤ a1_1 → a1_1 ≤ 9223372036854775807 → -9223372036854775808 ≤ a1_2 → a1_2 ≤ 9223372036854775807 → -9223372036854775808 ≤ a2_0 → a2_0 ≤ 9223372036854775807 → -9223372036854775808 ≤ a2_1 → a2_1 ≤ 9223372036854775807 → -9223372036854775808 ≤ a2_2 → a2_2 ≤ 9223372036854775807 → ∃ k, laws_FnExactMixBaths.f k a0_0 a0_1 a0_2 a0_3 a1_0 a1_1 a1_2 a2_0 a2_1 a2_2 = some true := by
  intro p k c d v u g v' u' g' _ _ _ _ hc hc' hd hd' _ _ _ _ _ _ _ _ _ _ _ _
  have H : ∃ r, spec_MixBaths.f 1 p k c d v u g v' u' g' = some r ∧ impl_MixBaths.f p k c d v u g v' u' g' = some r := by
    unfold spec_MixBaths.f impl_MixBaths.f spec_MixBaths.j0
    rw [L_specOk ⟨hc, hc'⟩ ⟨hd, hd'⟩, L_specOk ⟨hc, hc'⟩ ⟨hd, hd'⟩, L_implBath ⟨hc, hc'⟩ ⟨hd, hd'⟩, L_implBath ⟨hc, hc'⟩ ⟨hd, hd'⟩]
    simp only [Option.bind_some, decide_eq_true_eq]
    by_cases h1 : D_dev p k c d ∧ D_vol p v u g
    · by_cases h2 : D_dev p k c d ∧ D_vol p v' u' g'
      · rw [if_pos h1, if_pos h1, if_pos h2]
        have hv := h1.2
        have hv' := h2.2
        unfold D_vol at hv hv'
        have m1 := L_mulb (x := g) (y := v) (X := 100000) (Y := 20000) (by omega) (by omega) (by omega) (by omega)
        have m2 := L_mulb (x := g') (y := v') (X := 100000) (Y := 20000) (by omega) (by omega) (by omega) (by omega)
        rw [L_w (x := v + v') (by omega), L_w (x := u + u') (by omega), L_w (x := g * v) (by omega), L_w (x := g' * v') (by omega), L_w (x := g * v + g' * v') (by omega), if_neg (show ¬ v + v' = 0 by omega), if_neg (show ¬ v + v' = 0 by omega)]
        generalize wrap64 ((g * v + g' * v').tdiv (v + v')) = q
        have e : (!decide (D_dev p k c d ∧ D_vol p v' u' g')) = false := by simp [h2]
        rw [e]
        simp only [Bool.false_eq_true, if_false]
        rw [L_specOk ⟨hc, hc'⟩ ⟨hd, hd'⟩]
        unfold impl_checked.f
        rw [L_isBath h1.1]
        simp only [Option.bind_some, decide_eq_true_eq]
        by_cases h3 : D_vol p (v + v') (u + u') q
        · rw [if_pos ⟨h1.1, h3⟩, if_pos h3]; exact ⟨_, rfl, rfl⟩
        · rw [if_neg (fun h => h3 h.2), if_neg h3]; exact ⟨_, rfl, rfl⟩
      · rw [if_pos h1, if_pos h1, if_neg h2]
        simp [h2]
    · rw [if_neg h1, if_neg h1]
      simp
  obtain ⟨r, e1, e2⟩ := H
  refine ⟨1, ?_⟩
  unfold laws_FnExactMixBaths.f laws_toDeveloper.f laws_toBath.f
  simp only [Option.bind_some]
  rw [e1, e2]
  simp [L_eqBath]

end Go.Proofs.Ytklcpnhjihmjfaa.Pure
