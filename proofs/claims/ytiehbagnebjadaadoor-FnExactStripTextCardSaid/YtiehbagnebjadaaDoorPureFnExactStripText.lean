/- The plain law of FnExactStripText: the printed function of the law answers true for all arguments within their kinds' bounds. No condition besides. -/
import Derived.Test.YtiehbagnebjadaaDoorQx3
namespace Go.Proofs.YtiehbagnebjadaaDoor.Pure
open Go.RowKit Go.Proofs.YtiehbagnebjadaaDoor.Q Go.Proofs.YtiehbagnebjadaaDoorW.PrintWords Go.Proofs.YtiehbagnebjadaaDoorW.PrintLast Go.Proofs.YtiehbagnebjadaaDoorW.PrintMore
set_option linter.unusedVariables false
set_option linter.unusedSimpArgs false
def D_strip (a b c : Int) : Prop := 0 ≤ a ∧ a ≤ 36 ∧ 1 ≤ b ∧ b ≤ 9 ∧ 1 ≤ c ∧ c ≤ 20 ∧ a + b * (c - 1) ≤ 36
instance (a b c : Int) : Decidable (D_strip a b c) := by unfold D_strip; infer_instance

theorem L_w {x : Int} (h : -9223372036854775808 ≤ x ∧ x ≤ 9223372036854775807) : wrap64 x = x := by unfold wrap64; omega

theorem L_sd {p q : Prop} [Decidable p] [Decidable q] (h : p ↔ q) : some (decide p) = some (decide q) := by rw [decide_eq_decide.mpr h]

theorem L_sf {q : Prop} [Decidable q] (h : ¬ q) : some false = some (decide q) := by rw [decide_eq_false h]

theorem L_in (a b c : Int) : spec_l00In.f a b c = some (decide (b ≤ a ∧ a ≤ c)) := by
  unfold spec_l00In.f
  split
  · exact L_sd (by omega)
  · exact L_sf (by omega)

theorem L_specThirds (a : Int) : spec_l03Thirds.f a = some (decide (0 ≤ a ∧ a ≤ 36)) := by
  unfold spec_l03Thirds.f; rw [L_in]; rfl

theorem L_mulb {x y X Y : Int} (h : 0 ≤ x) (hx : x ≤ X) (k : 0 ≤ y) (ky : y ≤ Y) : 0 ≤ x * y ∧ x * y ≤ X * Y :=
  ⟨Int.mul_nonneg h k, Int.mul_le_mul hx ky k (Int.le_trans h hx)⟩

theorem L_stripb {b c : Int} (hb : 1 ≤ b ∧ b ≤ 9) (hc : 1 ≤ c ∧ c ≤ 20) : 0 ≤ b * (c - 1) ∧ b * (c - 1) ≤ 171 := by
  have := L_mulb (x := b) (y := c - 1) (X := 9) (Y := 19) (by omega) (by omega) (by omega) (by omega)
  omega

theorem L_strip {a b c : Int} (ha : -128 ≤ a ∧ a ≤ 127) (hb : -128 ≤ b ∧ b ≤ 127) (hc : -128 ≤ c ∧ c ≤ 127) : spec_l05Ok.f a b c = some (decide (D_strip a b c)) := by
  unfold spec_l05Ok.f
  rw [L_w (x := a) (by omega), L_w (x := b) (by omega), L_w (x := c) (by omega)]
  simp only [L_specThirds, L_in, Option.bind_some, decide_eq_true_eq]
  unfold D_strip
  by_cases h1 : 0 ≤ a ∧ a ≤ 36
  · by_cases h2 : 1 ≤ b ∧ b ≤ 9
    · by_cases h3 : 1 ≤ c ∧ c ≤ 20
      · have := L_stripb h2 h3
        rw [if_pos h1, if_pos h2, if_pos h3, L_w (x := c - 1) (by omega), L_w (x := b * (c - 1)) (by omega), L_w (x := a + b * (c - 1)) (by omega)]
        exact L_sd (by omega)
      · rw [if_pos h1, if_pos h2, if_neg h3]; exact L_sf (by omega)
    · rw [if_pos h1, if_neg h2]; exact L_sf (by omega)
  · rw [if_neg h1]; exact L_sf (by omega)

theorem L_within (a b c : Int) : impl_within.f a b c = some (decide (b ≤ a ∧ a ≤ c)) := by
  unfold impl_within.f
  split
  · exact L_sd (by omega)
  · exact L_sf (by omega)

theorem L_areThirds (a : Int) : impl_areThirds.f a = some (decide (0 ≤ a ∧ a ≤ 36)) := by
  unfold impl_areThirds.f; rw [L_within]; rfl

theorem L_implStrip {a b c : Int} (ha : -128 ≤ a ∧ a ≤ 127) (hb : -128 ≤ b ∧ b ≤ 127) (hc : -128 ≤ c ∧ c ≤ 127) : impl_ValidStrip.f a b c = some (decide (D_strip a b c)) := by
  unfold impl_ValidStrip.f impl_Strip_light.f
  rw [L_w (x := a) (by omega), L_w (x := b) (by omega), L_w (x := c) (by omega)]
  simp only [L_areThirds, L_within, Option.bind_some, decide_eq_true_eq]
  unfold D_strip
  by_cases h1 : 0 ≤ a ∧ a ≤ 36
  · by_cases h2 : 1 ≤ b ∧ b ≤ 9
    · by_cases h3 : 1 ≤ c ∧ c ≤ 20
      · have := L_stripb h2 h3
        rw [if_pos h1, if_pos h2, if_pos h3, L_w (x := c - 1) (by omega), L_w (x := b * (c - 1)) (by omega), L_w (x := a + b * (c - 1)) (by omega)]
        exact L_sd (by omega)
      · rw [if_pos h1, if_pos h2, if_neg h3]; exact L_sf (by omega)
    · rw [if_pos h1, if_neg h2]; exact L_sf (by omega)
  · rw [if_neg h1]; exact L_sf (by omega)

theorem L_strOne {n : Nat} (h : n < 256) : strOfNums [(n : Int)] = ⟨#[UInt8.ofNat n]⟩ := by
  simp [strOfNums]

theorem L_push (l : List UInt8) (x : UInt8) : (⟨l.toArray⟩ : ByteArray) ++ (⟨#[x]⟩ : ByteArray) = ⟨(l ++ [x]).toArray⟩ := by
  apply ByteArray.ext
  simp [ByteArray.data_append]

theorem L_specDecimal : ∀ (d k n : Nat), n < 10 ^ d → d ≤ 18 → d ≤ k → 1 ≤ k → spec_Decimal.f k (n : Int) = some ⟨(Lib.decDigits n).toArray⟩ ∧ (Lib.decDigits n).length ≤ d + 1
  | d, 0, n, _, _, _, h => absurd h (by omega)
  | d, k + 1, n, h, hd, hk, _ => by
    rw [spec_Decimal.f]
    by_cases h10 : n < 10
    · rw [if_pos (by omega), Lib.decDigits, dif_pos h10, Int.tmod_eq_emod_of_nonneg (by omega), show (n : Int) % 10 = n by omega, L_w (x := 48 + (n : Int)) (by omega), show (48 + (n : Int)) % 256 = ((48 + n : Nat) : Int) by omega, L_strOne (by omega)]
      exact ⟨rfl, by simp⟩
    · obtain ⟨d, rfl⟩ : ∃ e, d = e + 1 := ⟨d - 1, by cases d with | zero => simp at h; omega | succ d => omega⟩
      have hp : 10 ^ (d + 1) = 10 ^ d * 10 := Nat.pow_succ ..
      have hle : 10 ^ (d + 1) ≤ 10 ^ 18 := Nat.pow_le_pow_right (by omega) hd
      have h1 : n / 10 < 10 ^ d := by omega
      have hd1 : 1 ≤ d := by
        cases d with
        | zero => simp at h; omega
        | succ d => omega
      obtain ⟨e, hl⟩ := L_specDecimal d k (n / 10) h1 (by omega) (by omega) (by omega)
      have hq : (n : Int).tdiv 10 = ((n / 10 : Nat) : Int) := by rw [Int.tdiv_eq_ediv_of_nonneg (by omega)]; omega
      have hr : (48 + ((n : Int) % 10)) % 256 = ((48 + n % 10 : Nat) : Int) := by omega
      have e2 : Lib.decDigits n = Lib.decDigits (n / 10) ++ [UInt8.ofNat (48 + n % 10)] := by rw [Lib.decDigits, dif_neg h10]
      rw [if_neg (by omega), hq, L_w (x := ((n / 10 : Nat) : Int)) (by omega), e, Int.tmod_eq_emod_of_nonneg (by omega), L_w (x := 48 + (n : Int) % 10) (by omega), hr]
      simp only [Option.bind_some]
      rw [L_strOne (n := 48 + n % 10) (by omega), if_pos (by show (Lib.decDigits (n / 10)).length + 1 ≤ _; omega), L_push, ← e2]
      refine ⟨rfl, ?_⟩
      rw [e2, List.length_append]
      simp only [List.length_cons, List.length_nil]
      omega

theorem L_decOf {n : Int} (h0 : 0 ≤ n) (h : n < 1000000) {k : Nat} (hk : 6 ≤ k) : spec_Decimal.f k n = some ⟨(Lib.decDigits n.toNat).toArray⟩ ∧ (⟨(Lib.decDigits n.toNat).toArray⟩ : ByteArray).size ≤ 7 := by
  have := L_specDecimal 6 k n.toNat (by omega) (by omega) hk (by omega)
  rw [show ((n.toNat : Nat) : Int) = n by omega] at this
  exact this

theorem L_implDec {n : Int} (h0 : 0 ≤ n) (h : n < 100) : impl_decimal.f n = some ⟨(Lib.decDigits n.toNat).toArray⟩ := by
  unfold impl_decimal.f
  rw [if_pos h0, if_pos h]

theorem FnExactStripText : ∀ (a0_0 : Int) (a0_1 : Int) (a0_2 : Int), -128 ≤ a0_0 → a0_0 ≤ 127 → -128 ≤ a0_1 → a0_1 ≤ 127 → -128 ≤ a0_2 → a0_2 ≤ 127 → ∃ k, laws_FnExactStripText.f k a0_0 a0_1 a0_2 = some true := by
  intro a b c ha ha' hb hb' hc hc'
  refine ⟨6, ?_⟩
  unfold laws_FnExactStripText.f laws_toStrip.f spec_StripText.f impl_StripText.f
  simp only [Option.bind_some]
  rw [L_strip ⟨ha, ha'⟩ ⟨hb, hb'⟩ ⟨hc, hc'⟩, L_implStrip ⟨ha, ha'⟩ ⟨hb, hb'⟩ ⟨hc, hc'⟩]
  simp only [Option.bind_some, decide_eq_true_eq]
  by_cases h : D_strip a b c
  · have h' := h
    unfold D_strip at h'
    rw [if_pos h, if_pos h]
    unfold spec_l05Text.f impl_stripText.f
    obtain ⟨e1, s1⟩ := L_decOf (n := a) (by omega) (by omega) (k := 6) (by omega)
    obtain ⟨e2, s2⟩ := L_decOf (n := b) (by omega) (by omega) (k := 6) (by omega)
    obtain ⟨e3, s3⟩ := L_decOf (n := c) (by omega) (by omega) (k := 6) (by omega)
    rw [L_w (x := a) (by omega), L_w (x := b) (by omega), L_w (x := c) (by omega), e1, e2, e3, L_implDec (n := a) (by omega) (by omega), L_implDec (n := b) (by omega) (by omega), L_implDec (n := c) (by omega) (by omega)]
    generalize (⟨(Lib.decDigits a.toNat).toArray⟩ : ByteArray) = x at s1 ⊢
    generalize (⟨(Lib.decDigits b.toNat).toArray⟩ : ByteArray) = y at s2 ⊢
    generalize (⟨(Lib.decDigits c.toNat).toArray⟩ : ByteArray) = z at s3 ⊢
    have sp : (⟨#[32]⟩ : ByteArray).size = 1 := rfl
    simp only [Option.bind_some]
    rw [if_pos (by omega), if_pos (by rw [ByteArray.size_append]; omega), if_pos (by rw [ByteArray.size_append, ByteArray.size_append]; omega), if_pos (by rw [ByteArray.size_append, ByteArray.size_append, ByteArray.size_append]; omega)]
    simp
  · rw [if_neg h, if_neg h]
    simp

end Go.Proofs.YtiehbagnebjadaaDoor.Pure
