/- The plain law of FnExactNewBath: the printed function of the law answers true for all arguments within their kinds' bounds. No condition besides. -/
import Derived.Test.YtklcpnhjihmjfaaQx3
namespace Go.Proofs.Ytklcpnhjihmjfaa.Pure
open Go.RowKit Go.Proofs.Ytklcpnhjihmjfaa.Q Go.Proofs.YtklcpnhjihmjfaaW.PrintWords Go.Proofs.YtklcpnhjihmjfaaW.PrintLast Go.Proofs.YtklcpnhjihmjfaaW.PrintMore
set_option linter.unusedVariables false
set_option linter.unusedSimpArgs false
theorem L_w {x : Int} (h : -9223372036854775808 ≤ x ∧ x ≤ 9223372036854775807) : wrap64 x = x := by unfold wrap64; omega

theorem L_sd {p q : Prop} [Decidable p] [Decidable q] (h : p ↔ q) : some (decide p) = some (decide q) := by rw [decide_eq_decide.mpr h]

theorem L_sf {q : Prop} [Decidable q] (h : ¬ q) : some false = some (decide q) := by rw [decide_eq_false h]

theorem L_in (a b c : Int) : spec_l00In.f a b c = some (decide (b ≤ a ∧ a ≤ c)) := by
  unfold spec_l00In.f
  split
  · exact L_sd (by omega)
  · exact L_sf (by omega)

theorem L_within (a b c : Int) : impl_within.f a b c = some (decide (b ≤ a ∧ a ≤ c)) := by
  unfold impl_within.f
  split
  · exact L_sd (by omega)
  · exact L_sf (by omega)

def D_dev (a b c d : Int) : Prop := 100 ≤ a ∧ a ≤ 100000 ∧ 1 ≤ b ∧ b ≤ 100000 ∧ 10 ≤ c ∧ c ≤ 40 ∧ 1 ≤ d ∧ d ≤ 10
instance (a b c d : Int) : Decidable (D_dev a b c d) := by unfold D_dev; infer_instance

theorem L_specDev {a b c d : Int} (hc : -128 ≤ c ∧ c ≤ 127) (hd : -128 ≤ d ∧ d ≤ 127) : spec_l04Developer.f a b c d = some (decide (D_dev a b c d)) := by
  unfold spec_l04Developer.f
  rw [L_w (x := c) (by omega), L_w (x := d) (by omega)]
  simp only [L_in, Option.bind_some, decide_eq_true_eq]
  unfold D_dev
  repeat' split
  all_goals first | exact L_sd (by omega) | exact L_sf (by omega)

theorem L_implDev {a b c d : Int} (hc : -128 ≤ c ∧ c ≤ 127) (hd : -128 ≤ d ∧ d ≤ 127) : impl_ValidDeveloper.f a b c d = some (decide (D_dev a b c d)) := by
  unfold impl_ValidDeveloper.f
  rw [L_w (x := c) (by omega), L_w (x := d) (by omega)]
  simp only [L_within, Option.bind_some, decide_eq_true_eq]
  unfold D_dev
  repeat' split
  all_goals first | exact L_sd (by omega) | exact L_sf (by omega)

theorem L_isVolume (v : Int) : impl_isVolume.f v = some (decide (1 ≤ v ∧ v ≤ 20000)) := by
  unfold impl_isVolume.f; rw [L_within]; rfl

theorem FnExactNewBath : ∀ (a0_0 : Int) (a0_1 : Int) (a0_2 : Int) (a0_3 : Int) (a1 : Int), -9223372036854775808 ≤ a0_0 → a0_0 ≤ 9223372036854775807 → -9223372036854775808 ≤ a0_1 → a0_1 ≤ 9223372036854775807 → -128 ≤ a0_2 → a0_2 ≤ 127 → -128 ≤ a0_3 → a0_3 ≤ 127 → -9223372036854775808 ≤ a1 → a1 ≤ 9223372036854775807 → laws_FnExactNewBath.f a0_0 a0_1 a0_2 a0_3 a1 = some true := by
  intro a b c d v _ _ _ _ hc hc' hd hd' _ _
  unfold laws_FnExactNewBath.f laws_toDeveloper.f spec_NewBath.f impl_NewBath.f laws_eqBath.f
  simp only [Option.bind_some]
  rw [L_specDev ⟨hc, hc'⟩ ⟨hd, hd'⟩, L_implDev ⟨hc, hc'⟩ ⟨hd, hd'⟩, L_in, L_isVolume]
  simp only [Option.bind_some]
  by_cases h1 : D_dev a b c d
  · by_cases h2 : 1 ≤ v ∧ v ≤ 20000
    · simp [h1, h2]
    · simp [h1, h2]
  · simp [h1]

end Go.Proofs.Ytklcpnhjihmjfaa.Pure
