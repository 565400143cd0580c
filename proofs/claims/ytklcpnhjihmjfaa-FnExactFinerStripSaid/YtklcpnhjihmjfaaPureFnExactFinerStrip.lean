/- The plain law of FnExactFinerStrip: the printed function of the law answers true for all arguments within their kinds' bounds. No condition besides. -/
import Derived.Test.YtklcpnhjihmjfaaQx18
namespace Go.Proofs.Ytklcpnhjihmjfaa.Pure
open Go.RowKit Go.Proofs.Ytklcpnhjihmjfaa.Q Go.Proofs.YtklcpnhjihmjfaaW.PrintWords Go.Proofs.YtklcpnhjihmjfaaW.PrintLast Go.Proofs.YtklcpnhjihmjfaaW.PrintMore
set_option linter.unusedVariables false
set_option linter.unusedSimpArgs false
def D_strip (a b c : Int) : Prop := 0 ≤ a ∧ a ≤ 36 ∧ 1 ≤ b ∧ b ≤ 9 ∧ 1 ≤ c ∧ c ≤ 20 ∧ a + b * (c - 1) ≤ 36
instance (a b c : Int) : Decidable (D_strip a b c) := by unfold D_strip; infer_instance

theorem L_w {x : Int} (h : -9223372036854775808 ≤ x ∧ x ≤ 9223372036854775807) : wrap64 x = x := by unfold wrap64; omega

theorem L_sd {p q : Prop} [Decidable p] [Decidable q] (h : p ↔ q) : some (decide p) = some (decide q) := by rw [decide_eq_decide.mpr h]

theorem L_sf {q : Prop} [Decidable q] (h : ¬ q) : some false = some (decide q) := by rw [decide_eq_false h]

theorem L_in (a b c : Int) : spec_l00In.f a b c = some (decide (b ≤ a ∧ a ≤ c)) := by
  unfold spec_l00In.f
  split
  · exact L_sd (by omega)
  · exact L_sf (by omega)

theorem L_specThirds (a : Int) : spec_l03Thirds.f a = some (decide (0 ≤ a ∧ a ≤ 36)) := by
  unfold spec_l03Thirds.f; rw [L_in]; rfl

theorem L_mulb {x y X Y : Int} (h : 0 ≤ x) (hx : x ≤ X) (k : 0 ≤ y) (ky : y ≤ Y) : 0 ≤ x * y ∧ x * y ≤ X * Y :=
  ⟨Int.mul_nonneg h k, Int.mul_le_mul hx ky k (Int.le_trans h hx)⟩

theorem L_stripb {b c : Int} (hb : 1 ≤ b ∧ b ≤ 9) (hc : 1 ≤ c ∧ c ≤ 20) : 0 ≤ b * (c - 1) ∧ b * (c - 1) ≤ 171 := by
  have := L_mulb (x := b) (y := c - 1) (X := 9) (Y := 19) (by omega) (by omega) (by omega) (by omega)
  omega

theorem L_strip {a b c : Int} (ha : -128 ≤ a ∧ a ≤ 127) (hb : -128 ≤ b ∧ b ≤ 127) (hc : -128 ≤ c ∧ c ≤ 127) : spec_l05Ok.f a b c = some (decide (D_strip a b c)) := by
  unfold spec_l05Ok.f
  rw [L_w (x := a) (by omega), L_w (x := b) (by omega), L_w (x := c) (by omega)]
  simp only [L_specThirds, L_in, Option.bind_some, decide_eq_true_eq]
  unfold D_strip
  by_cases h1 : 0 ≤ a ∧ a ≤ 36
  · by_cases h2 : 1 ≤ b ∧ b ≤ 9
    · by_cases h3 : 1 ≤ c ∧ c ≤ 20
      · have := L_stripb h2 h3
        rw [if_pos h1, if_pos h2, if_pos h3, L_w (x := c - 1) (by omega), L_w (x := b * (c - 1)) (by omega), L_w (x := a + b * (c - 1)) (by omega)]
        exact L_sd (by omega)
      · rw [if_pos h1, if_pos h2, if_neg h3]; exact L_sf (by omega)
    · rw [if_pos h1, if_neg h2]; exact L_sf (by omega)
  · rw [if_neg h1]; exact L_sf (by omega)

theorem L_within (a b c : Int) : impl_within.f a b c = some (decide (b ≤ a ∧ a ≤ c)) := by
  unfold impl_within.f
  split
  · exact L_sd (by omega)
  · exact L_sf (by omega)

theorem L_areThirds (a : Int) : impl_areThirds.f a = some (decide (0 ≤ a ∧ a ≤ 36)) := by
  unfold impl_areThirds.f; rw [L_within]; rfl

theorem L_implStrip {a b c : Int} (ha : -128 ≤ a ∧ a ≤ 127) (hb : -128 ≤ b ∧ b ≤ 127) (hc : -128 ≤ c ∧ c ≤ 127) : impl_ValidStrip.f a b c = some (decide (D_strip a b c)) := by
  unfold impl_ValidStrip.f impl_Strip_light.f
  rw [L_w (x := a) (by omega), L_w (x := b) (by omega), L_w (x := c) (by omega)]
  simp only [L_areThirds, L_within, Option.bind_some, decide_eq_true_eq]
  unfold D_strip
  by_cases h1 : 0 ≤ a ∧ a ≤ 36
  · by_cases h2 : 1 ≤ b ∧ b ≤ 9
    · by_cases h3 : 1 ≤ c ∧ c ≤ 20
      · have := L_stripb h2 h3
        rw [if_pos h1, if_pos h2, if_pos h3, L_w (x := c - 1) (by omega), L_w (x := b * (c - 1)) (by omega), L_w (x := a + b * (c - 1)) (by omega)]
        exact L_sd (by omega)
      · rw [if_pos h1, if_pos h2, if_neg h3]; exact L_sf (by omega)
    · rw [if_pos h1, if_neg h2]; exact L_sf (by omega)
  · rw [if_neg h1]; exact L_sf (by omega)

theorem FnExactFinerStrip : ∀ (a0_0 : Int) (a0_1 : Int) (a0_2 : Int) (a1 : Int), -128 ≤ a0_0 → a0_0 ≤ 127 → -128 ≤ a0_1 → a0_1 ≤ 127 → -128 ≤ a0_2 → a0_2 ≤ 127 → -9223372036854775808 ≤ a1 → a1 ≤ 9223372036854775807 → laws_FnExactFinerStrip.f a0_0 a0_1 a0_2 a1 = some true := by
  intro a b c n ha ha' hb hb' hc hc' hn hn'
  have e : spec_FinerStrip.f a b c n = impl_FinerStrip.f a b c n ∧ ∃ r, impl_FinerStrip.f a b c n = some r := by
    unfold spec_FinerStrip.f impl_FinerStrip.f
    rw [L_strip ⟨ha, ha'⟩ ⟨hb, hb'⟩ ⟨hc, hc'⟩, L_implStrip ⟨ha, ha'⟩ ⟨hb, hb'⟩ ⟨hc, hc'⟩, L_in, L_within]
    simp only [Option.bind_some, decide_eq_true_eq]
    by_cases h : D_strip a b c
    · have hD := h
      unfold D_strip at h
      rw [if_pos hD, if_pos hD]
      rw [L_w (x := a) (by omega), L_w (x := b) (by omega), L_w (x := c) (by omega), L_w (x := c - 1) (by omega)]
      by_cases h2 : 0 ≤ n ∧ n ≤ c - 1
      · rw [if_pos h2, if_pos h2]
        have h3 := L_mulb (x := n) (y := b) (X := 19) (Y := 9) (by omega) (by omega) (by omega) (by omega)
        have h4 : b * n = n * b := Int.mul_comm _ _
        unfold impl_Strip_light.f spec_l00Max.f spec_l00Min.f
        rw [L_w (x := a) (by omega), L_w (x := b) (by omega), h4, L_w (x := n * b) (by omega), L_w (x := a + n * b) (by omega), L_w (x := b - 1) (by omega), L_w (x := a + n * b - (b - 1)) (by omega)]
        simp only [Option.bind_some]
        rw [L_w (x := a + n * b - b) (by omega), L_w (x := a + n * b - b + 1) (by omega)]
        have e1 : (if 0 > a + n * b - (b - 1) then some (0 : Int) else some (a + n * b - (b - 1))) = some (mx 0 (a + n * b - b + 1)) := by
          unfold mx; split <;> (congr 1; omega)
        rw [e1]
        simp only [Option.bind_some]
        generalize hm : mx 0 (a + n * b - b + 1) = m
        have hm2 : 0 ≤ m ∧ m ≤ 400 := by unfold mx at hm; omega
        rw [L_w (x := 36 - m) (by omega), L_w (x := 36 - m + 1) (by omega)]
        have e2 : (if c < 36 - m + 1 then some c else some (36 - m + 1)) = some (mn c (36 - m + 1)) := by
          unfold mn; split <;> (congr 1; omega)
        rw [e2]
        exact ⟨rfl, _, rfl⟩
      · rw [if_neg h2, if_neg h2]; exact ⟨rfl, _, rfl⟩
    · rw [if_neg h, if_neg h]; exact ⟨rfl, _, rfl⟩
  obtain ⟨e1, r, e2⟩ := e
  unfold laws_FnExactFinerStrip.f laws_toStrip.f laws_eqStrip.f
  simp only [Option.bind_some]
  rw [e1, e2]
  simp

end Go.Proofs.Ytklcpnhjihmjfaa.Pure
