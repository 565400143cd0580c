/- The plain law of FnExactDevelopSheet: the printed function of the law answers true for all arguments within their kinds' bounds. No condition besides. -/
import Derived.Test.YtiaaibiodolcgaaQx24
namespace Go.Proofs.Ytiaaibiodolcgaa.Pure
open Go.RowKit Go.Proofs.Ytiaaibiodolcgaa.Q Go.Proofs.YtiaaibiodolcgaaW.PrintWords Go.Proofs.YtiaaibiodolcgaaW.PrintLast Go.Proofs.YtiaaibiodolcgaaW.PrintMore
set_option linter.unusedVariables false
set_option linter.unusedSimpArgs false
def D_dev (a b c d : Int) : Prop := 100 ≤ a ∧ a ≤ 100000 ∧ 1 ≤ b ∧ b ≤ 100000 ∧ 10 ≤ c ∧ c ≤ 40 ∧ 1 ≤ d ∧ d ≤ 10
instance (a b c d : Int) : Decidable (D_dev a b c d) := by unfold D_dev; infer_instance

def D_vol (p v u g : Int) : Prop := 1 ≤ v ∧ v ≤ 20000 ∧ 0 ≤ u ∧ u ≤ 100000000 ∧ 0 ≤ g ∧ g ≤ 100000 ∧ 1000 * u ≤ v * p
instance (p v u g : Int) : Decidable (D_vol p v u g) := by unfold D_vol; infer_instance

def D_slowFrom (s : Int) : Nat → Int → Int
  | 0, i => i
  | d + 1, i => if tmv i * s < 1000000 then D_slowFrom s d (i + 1) else i

def D_slow (s : Int) : Int := D_slowFrom s 37 0

def D_strength (per keeps vol used age : Int) : Int := if age ≥ keeps then 0 else 1000 * (vol * per - 1000 * used) / (vol * per) * (keeps - age) / keeps

def D_sheet (p k c d v u g a : Int) : Int × Int × Int × Int :=
  if D_dev p k c d ∧ D_vol p v u g then (if 1 ≤ a ∧ a ≤ 5000 then (if D_slow (D_strength p k v u g) ≤ 36 ∧ D_vol p v (u + a) g then (v, u + a, g, 0) else (0, 0, 0, 4)) else (0, 0, 0, 2)) else (0, 0, 0, 1)

theorem L_w {x : Int} (h : -9223372036854775808 ≤ x ∧ x ≤ 9223372036854775807) : wrap64 x = x := by unfold wrap64; omega

theorem L_sd {p q : Prop} [Decidable p] [Decidable q] (h : p ↔ q) : some (decide p) = some (decide q) := by rw [decide_eq_decide.mpr h]

theorem L_sf {q : Prop} [Decidable q] (h : ¬ q) : some false = some (decide q) := by rw [decide_eq_false h]

theorem L_in (a b c : Int) : spec_l00In.f a b c = some (decide (b ≤ a ∧ a ≤ c)) := by
  unfold spec_l00In.f
  split
  · exact L_sd (by omega)
  · exact L_sf (by omega)

theorem L_specDev {a b c d : Int} (hc : -128 ≤ c ∧ c ≤ 127) (hd : -128 ≤ d ∧ d ≤ 127) : spec_l04Developer.f a b c d = some (decide (D_dev a b c d)) := by
  unfold spec_l04Developer.f
  rw [L_w (x := c) (by omega), L_w (x := d) (by omega)]
  simp only [L_in, Option.bind_some, decide_eq_true_eq]
  unfold D_dev
  repeat' split
  all_goals first | exact L_sd (by omega) | exact L_sf (by omega)

theorem L_mulb {x y X Y : Int} (h : 0 ≤ x) (hx : x ≤ X) (k : 0 ≤ y) (ky : y ≤ Y) : 0 ≤ x * y ∧ x * y ≤ X * Y :=
  ⟨Int.mul_nonneg h k, Int.mul_le_mul hx ky k (Int.le_trans h hx)⟩

theorem L_specOk {a b c d v u g : Int} (hc : -128 ≤ c ∧ c ≤ 127) (hd : -128 ≤ d ∧ d ≤ 127) : spec_l04Ok.f a b c d v u g = some (decide (D_dev a b c d ∧ D_vol a v u g)) := by
  unfold spec_l04Ok.f
  rw [L_specDev hc hd]
  simp only [L_in, Option.bind_some, decide_eq_true_eq]
  by_cases hD : D_dev a b c d
  · have hDD := hD
    unfold D_dev at hDD
    rw [if_pos hD]
    by_cases h1 : 1 ≤ v ∧ v ≤ 20000
    · by_cases h2 : 0 ≤ u ∧ u ≤ 100000000
      · by_cases h3 : 0 ≤ g ∧ g ≤ 100000
        · rw [if_pos h1, if_pos h2, if_pos h3]
          have := L_mulb (x := v) (y := a) (X := 20000) (Y := 100000) (by omega) (by omega) (by omega) (by omega)
          rw [L_w (x := 1000 * u) (by omega), L_w (x := v * a) (by omega)]
          refine L_sd ?_
          unfold D_vol
          constructor
          · intro h; exact ⟨hD, by omega⟩
          · intro h; omega
        · rw [if_pos h1, if_pos h2, if_neg h3]; refine L_sf ?_; unfold D_vol; omega
      · rw [if_pos h1, if_neg h2]; refine L_sf ?_; unfold D_vol; omega
    · rw [if_neg h1]; refine L_sf ?_; unfold D_vol; omega
  · rw [if_neg hD]; exact L_sf (fun h => hD h.1)

theorem L_quot {a b q : Int} (ha : 0 ≤ a) (hb : 0 < b) (h : a ≤ q * b) : 0 ≤ a / b ∧ a / b ≤ q := by
  refine ⟨Int.ediv_nonneg ha (by omega), ?_⟩
  have := Int.ediv_le_ediv hb h
  rwa [Int.mul_ediv_cancel _ (by omega)] at this

theorem L_strengthParts {p k v u g : Int} {a b c d : Int} (hD : D_dev p k c d) (hV : D_vol p v u g) (hg : g < k) :
    (0 < v * p ∧ v * p ≤ 2000000000) ∧ (0 ≤ 1000 * (v * p - 1000 * u) / (v * p) ∧ 1000 * (v * p - 1000 * u) / (v * p) ≤ 1000) ∧
    (0 ≤ 1000 * (v * p - 1000 * u) / (v * p) * (k - g) ∧ 1000 * (v * p - 1000 * u) / (v * p) * (k - g) ≤ 1000 * k) := by
  unfold D_dev at hD
  unfold D_vol at hV
  have h1 := L_mulb (x := v) (y := p) (X := 20000) (Y := 100000) (by omega) (by omega) (by omega) (by omega)
  have h2 : 0 < v * p := Int.mul_pos (by omega) (by omega)
  have h3 := L_quot (a := 1000 * (v * p - 1000 * u)) (b := v * p) (q := 1000) (by omega) h2 (by omega)
  have h4 := L_mulb (x := 1000 * (v * p - 1000 * u) / (v * p)) (y := k - g) (X := 1000) (Y := k) h3.1 h3.2 (by omega) (by omega)
  exact ⟨⟨h2, by omega⟩, h3, h4⟩

theorem L_strengthRange {p k v u g c d : Int} (hD : D_dev p k c d) (hV : D_vol p v u g) : 0 ≤ D_strength p k v u g ∧ D_strength p k v u g ≤ 1000 := by
  unfold D_strength
  split
  · omega
  · rename_i hg
    have hh := L_strengthParts (a := 0) (b := 0) hD hV (by omega)
    unfold D_dev at hD
    exact L_quot hh.2.2.1 (by omega) hh.2.2.2

theorem L_slowFrom (s : Int) (d : Nat) : ∀ i : Int, 0 ≤ i → i + d = 37 → i ≤ D_slowFrom s d i ∧ D_slowFrom s d i ≤ 37 ∧ (∀ j, i ≤ j → j < D_slowFrom s d i → tmv j * s < 1000000) ∧ (D_slowFrom s d i ≤ 36 → 1000000 ≤ tmv (D_slowFrom s d i) * s) := by
  induction d with
  | zero => intro i h0 hd; unfold D_slowFrom; exact ⟨by omega, by omega, fun j h1 h2 => by omega, fun h => by omega⟩
  | succ d ih =>
    intro i h0 hd
    unfold D_slowFrom
    split
    · rename_i hlt
      obtain ⟨h1, h2, h3, h4⟩ := ih (i + 1) (by omega) (by omega)
      refine ⟨by omega, h2, fun j hj hj2 => ?_, h4⟩
      by_cases e : j = i
      · rw [e]; exact hlt
      · exact h3 j (by omega) hj2
    · rename_i hge
      exact ⟨by omega, by omega, fun j h1 h2 => by omega, fun _ => by omega⟩

theorem L_slowRange (s : Int) : 0 ≤ D_slow s ∧ D_slow s ≤ 37 := by
  have := L_slowFrom s 37 0 (by omega) (by omega)
  exact ⟨this.1, this.2.1⟩

theorem L_specStrength {p k v u g c d : Int} (hD : D_dev p k c d) (hV : D_vol p v u g) : spec_l04Strength.f p k c d v u g = some (D_strength p k v u g) := by
  unfold spec_l04Strength.f D_strength
  by_cases hg : g ≥ k
  · rw [if_pos hg, if_pos hg]
  · rw [if_neg hg, if_neg hg]
    obtain ⟨h1, h2, h3⟩ := L_strengthParts (a := 0) (b := 0) hD hV (by omega)
    unfold D_dev at hD
    unfold D_vol at hV
    have h4 := L_quot h3.1 (show 0 < k by omega) h3.2
    rw [L_w (x := v * p) (by omega), if_neg (by omega), if_neg (by omega), L_w (x := 1000 * u) (by omega), L_w (x := v * p - 1000 * u) (by omega), L_w (x := 1000 * (v * p - 1000 * u)) (by omega),
      Int.tdiv_eq_ediv_of_nonneg (a := 1000 * (v * p - 1000 * u)) (by omega), L_w (x := 1000 * (v * p - 1000 * u) / (v * p)) (by omega), L_w (x := k - g) (by omega),
      L_w (x := 1000 * (v * p - 1000 * u) / (v * p) * (k - g)) (by omega), Int.tdiv_eq_ediv_of_nonneg h3.1, L_w (by omega)]

theorem L_specTimeAll : ∀ n : Nat, n < 37 → spec_l01Time.f n = some (tmv n) := by decide +kernel

theorem L_specTime {k : Int} (h : 0 ≤ k ∧ k ≤ 36) : spec_l01Time.f k = some (tmv k) := by
  obtain ⟨n, rfl⟩ : ∃ n : Nat, k = n := ⟨k.toNat, by omega⟩
  exact L_specTimeAll n (by omega)

theorem L_tmvAll : ∀ n : Nat, n < 37 → 1000 ≤ tmv n ∧ tmv n ≤ 4096000 := by decide

theorem L_tmv {k : Int} (h : 0 ≤ k ∧ k ≤ 36) : 1000 ≤ tmv k ∧ tmv k ≤ 4096000 := by
  obtain ⟨n, rfl⟩ : ∃ n : Nat, k = n := ⟨k.toNat, by omega⟩
  exact L_tmvAll n (by omega)

theorem L_tms {k s : Int} (h : 0 ≤ k ∧ k ≤ 36) (hs : 0 ≤ s ∧ s ≤ 1000) : wrap64 (tmv k * s) = tmv k * s := by
  have h1 := L_tmv h
  have h2 := L_mulb (x := tmv k) (y := s) (X := 4096000) (Y := 1000) (by omega) (by omega) hs.1 hs.2
  exact L_w (by omega)

theorem L_specSlowFrom {s : Int} (hs : 0 ≤ s ∧ s ≤ 1000) (d : Nat) : ∀ (k : Nat) (i : Int), 0 ≤ i → i + d = 37 → d < k → spec_l04Slower.l0 k s i = some (if D_slowFrom s d i ≤ 36 then D_slowFrom s d i else -1) := by
  induction d with
  | zero =>
    intro k i h0 hd hk
    obtain ⟨k, rfl⟩ : ∃ m, k = m + 1 := ⟨k - 1, by omega⟩
    have e : D_slowFrom s 0 i = i := rfl
    simp only [spec_l04Slower.l0]
    rw [if_neg (by omega), e, if_neg (by omega)]
  | succ d ih =>
    intro k i h0 hd hk
    obtain ⟨k, rfl⟩ : ∃ m, k = m + 1 := ⟨k - 1, by omega⟩
    simp only [spec_l04Slower.l0]
    rw [if_pos (by omega), L_specTime (by omega)]
    simp only [Option.bind_some]
    rw [L_tms (by omega) hs]
    by_cases h : tmv i * s < 1000000
    · have e : D_slowFrom s (d + 1) i = D_slowFrom s d (i + 1) := by simp only [D_slowFrom]; rw [if_pos h]
      rw [if_neg (by omega), L_w (x := i + 1) (by omega), e]
      exact ih k (i + 1) (by omega) (by omega) (by omega)
    · have e : D_slowFrom s (d + 1) i = i := by simp only [D_slowFrom]; rw [if_neg h]
      rw [if_pos (by omega), e, if_pos (by omega)]

theorem L_specSlower {s : Int} (hs : 0 ≤ s ∧ s ≤ 1000) {k : Nat} (hk : 38 ≤ k) : spec_l04Slower.f k s = some (if D_slow s ≤ 36 then D_slow s else -1) :=
  L_specSlowFrom hs 37 k 0 (by omega) (by omega) (by omega)

theorem L_specSheet {p k c d v u g a : Int} (hc : -128 ≤ c ∧ c ≤ 127) (hd : -128 ≤ d ∧ d ≤ 127) (hD : D_dev p k c d) (hV : D_vol p v u g) (ha : 1 ≤ a ∧ a ≤ 5000) {n : Nat} (hn : 38 ≤ n) :
    spec_l04Sheet.f n p k c d v u g a = some (if D_slow (D_strength p k v u g) ≤ 36 then (v, u + a, g, decide (D_vol p v (u + a) g)) else (0, 0, 0, false)) := by
  unfold spec_l04Sheet.f
  have hs := L_strengthRange hD hV
  have hr := L_slowRange (D_strength p k v u g)
  have hv := hV
  unfold D_vol at hv
  rw [L_specStrength hD hV]
  simp only [Option.bind_some]
  rw [L_specSlower hs hn]
  simp only [Option.bind_some]
  by_cases h : D_slow (D_strength p k v u g) ≤ 36
  · rw [if_pos h, if_neg (by omega), L_w (x := u + a) (by omega), L_specOk hc hd, if_pos h]
    simp [hD]
  · rw [if_neg h, if_pos (by omega), if_neg h]

theorem L_specDevSheet {p k c d v u g a : Int} (hc : -128 ≤ c ∧ c ≤ 127) (hd : -128 ≤ d ∧ d ≤ 127) {n : Nat} (hn : 38 ≤ n) : spec_DevelopSheet.f n p k c d v u g a = some (D_sheet p k c d v u g a) := by
  unfold spec_DevelopSheet.f D_sheet
  rw [L_specOk hc hd, L_in]
  simp only [Option.bind_some, decide_eq_true_eq]
  by_cases h : D_dev p k c d ∧ D_vol p v u g
  · rw [if_pos h, if_pos h]
    by_cases h1 : 1 ≤ a ∧ a ≤ 5000
    · rw [if_pos h1, if_pos h1, L_specSheet hc hd h.1 h.2 h1 hn]
      simp only [Option.bind_some]
      by_cases h2 : D_slow (D_strength p k v u g) ≤ 36
      · rw [if_pos h2]
        by_cases h3 : D_vol p v (u + a) g
        · simp [h2, h3]
        · simp [h3]
      · rw [if_neg h2]
        simp [h2]
    · rw [if_neg h1, if_neg h1]
  · rw [if_neg h, if_neg h]

theorem L_within (a b c : Int) : impl_within.f a b c = some (decide (b ≤ a ∧ a ≤ c)) := by
  unfold impl_within.f
  split
  · exact L_sd (by omega)
  · exact L_sf (by omega)

theorem L_implDev {a b c d : Int} (hc : -128 ≤ c ∧ c ≤ 127) (hd : -128 ≤ d ∧ d ≤ 127) : impl_ValidDeveloper.f a b c d = some (decide (D_dev a b c d)) := by
  unfold impl_ValidDeveloper.f
  rw [L_w (x := c) (by omega), L_w (x := d) (by omega)]
  simp only [L_within, Option.bind_some, decide_eq_true_eq]
  unfold D_dev
  repeat' split
  all_goals first | exact L_sd (by omega) | exact L_sf (by omega)

theorem L_isVolume (v : Int) : impl_isVolume.f v = some (decide (1 ≤ v ∧ v ≤ 20000)) := by
  unfold impl_isVolume.f; rw [L_within]; rfl

theorem L_isBath {a b c d v u g : Int} (hD : D_dev a b c d) : impl_isBath.f a b c d v u g = some (decide (D_vol a v u g)) := by
  unfold impl_isBath.f
  simp only [L_isVolume, L_within, Option.bind_some, decide_eq_true_eq]
  have hDD := hD
  unfold D_dev at hDD
  by_cases h1 : 1 ≤ v ∧ v ≤ 20000
  · by_cases h2 : 0 ≤ u ∧ u ≤ 100000000
    · by_cases h3 : 0 ≤ g ∧ g ≤ 100000
      · rw [if_pos h1, if_pos h2, if_pos h3]
        have := L_mulb (x := v) (y := a) (X := 20000) (Y := 100000) (by omega) (by omega) (by omega) (by omega)
        rw [L_w (x := 1000 * u) (by omega), L_w (x := v * a) (by omega)]
        refine L_sd ?_
        unfold D_vol
        constructor
        · intro h; omega
        · intro h; omega
      · rw [if_pos h1, if_pos h2, if_neg h3]; refine L_sf ?_; unfold D_vol; omega
    · rw [if_pos h1, if_neg h2]; refine L_sf ?_; unfold D_vol; omega
  · rw [if_neg h1]; refine L_sf ?_; unfold D_vol; omega

theorem L_implBath {a b c d v u g : Int} (hc : -128 ≤ c ∧ c ≤ 127) (hd : -128 ≤ d ∧ d ≤ 127) : impl_ValidBath.f a b c d v u g = some (decide (D_dev a b c d ∧ D_vol a v u g)) := by
  unfold impl_ValidBath.f
  rw [L_implDev hc hd]
  simp only [Option.bind_some, decide_eq_true_eq]
  by_cases hD : D_dev a b c d
  · rw [if_pos hD, L_isBath hD]
    exact L_sd (by simp [hD])
  · rw [if_neg hD]; exact L_sf (fun h => hD h.1)

theorem L_isArea (a : Int) : impl_isArea.f a = some (decide (1 ≤ a ∧ a ≤ 5000)) := by unfold impl_isArea.f; rw [L_within]; rfl

theorem L_implStrength {p k v u g c d : Int} (hD : D_dev p k c d) (hV : D_vol p v u g) : impl_Bath_strength.f v u g p k c d = some (D_strength p k v u g) := by
  unfold impl_Bath_strength.f D_strength
  have hDD := hD
  have hVV := hV
  unfold D_dev at hDD
  unfold D_vol at hVV
  have h1 := L_mulb (x := v) (y := p) (X := 20000) (Y := 100000) (by omega) (by omega) (by omega) (by omega)
  have h0 : 0 < v * p := Int.mul_pos (by omega) (by omega)
  have h3 := L_quot (a := 1000 * (v * p - 1000 * u)) (b := v * p) (q := 1000) (by omega) h0 (by omega)
  rw [L_w (x := v * p) (by omega), if_neg (by omega), if_neg (by omega), L_w (x := 1000 * u) (by omega), L_w (x := v * p - 1000 * u) (by omega), L_w (x := 1000 * (v * p - 1000 * u)) (by omega),
      Int.tdiv_eq_ediv_of_nonneg (a := 1000 * (v * p - 1000 * u)) (by omega), L_w (x := 1000 * (v * p - 1000 * u) / (v * p)) (by omega), L_w (x := k - g) (by omega)]
  by_cases hg : g ≥ k
  · rw [if_pos hg, show mx 0 (k - g) = 0 by unfold mx; omega, Int.mul_zero]
    simp [wrap64]
  · obtain ⟨_, h2, h3⟩ := L_strengthParts (a := 0) (b := 0) hD hV (by omega)
    have h4 := L_quot h3.1 (show 0 < k by omega) h3.2
    rw [if_neg hg, show mx 0 (k - g) = k - g by unfold mx; omega, L_w (x := 1000 * (v * p - 1000 * u) / (v * p) * (k - g)) (by omega), Int.tdiv_eq_ediv_of_nonneg h3.1, L_w (by omega)]

theorem L_areThirds (a : Int) : impl_areThirds.f a = some (decide (0 ≤ a ∧ a ≤ 36)) := by
  unfold impl_areThirds.f; rw [L_within]; rfl

theorem L_timeOf {k : Int} (h : 0 ≤ k ∧ k ≤ 36) : impl_timeOf.f k = some (tmv k) := by
  unfold impl_timeOf.f; rw [if_pos h.1, if_pos h.2]

theorem L_implSlowFrom {s : Int} (hs : 0 ≤ s ∧ s ≤ 1000) (d : Nat) : ∀ (k : Nat) (i : Int), 0 ≤ i → i + d = 37 → d < k → impl_slower.l0 k s i = some (D_slowFrom s d i) := by
  induction d with
  | zero =>
    intro k i h0 hd hk
    obtain ⟨k, rfl⟩ : ∃ m, k = m + 1 := ⟨k - 1, by omega⟩
    simp only [impl_slower.l0, D_slowFrom, L_areThirds, Option.bind_some, decide_eq_true_eq]
    rw [if_neg (by omega)]
  | succ d ih =>
    intro k i h0 hd hk
    obtain ⟨k, rfl⟩ : ∃ m, k = m + 1 := ⟨k - 1, by omega⟩
    simp only [impl_slower.l0, D_slowFrom, L_areThirds, Option.bind_some, decide_eq_true_eq]
    rw [if_pos (by omega), L_timeOf (by omega)]
    simp only [Option.bind_some]
    rw [L_tms (by omega) hs]
    by_cases h : tmv i * s < 1000000
    · rw [if_pos h, L_w (x := i + 1) (by omega), if_pos h]
      exact ih k (i + 1) (by omega) (by omega) (by omega)
    · rw [if_neg h, if_neg h]

theorem L_implSlower {s : Int} (hs : 0 ≤ s ∧ s ≤ 1000) {k : Nat} (hk : 38 ≤ k) : impl_slower.f k s = some (D_slow s) :=
  L_implSlowFrom hs 37 k 0 (by omega) (by omega) (by omega)

theorem L_checked {p k c d v u g e : Int} (hD : D_dev p k c d) : impl_checked.f p k c d v u g e = some (if D_vol p v u g then (v, u, g, 0) else (0, 0, 0, e)) := by
  unfold impl_checked.f
  rw [L_isBath hD]
  simp only [Option.bind_some, decide_eq_true_eq]
  split <;> rfl

theorem L_implDevSheet {p k c d v u g a : Int} (hc : -128 ≤ c ∧ c ≤ 127) (hd : -128 ≤ d ∧ d ≤ 127) {n : Nat} (hn : 38 ≤ n) : impl_DevelopSheet.f n p k c d v u g a = some (D_sheet p k c d v u g a) := by
  unfold impl_DevelopSheet.f D_sheet
  rw [L_implBath hc hd, L_isArea]
  simp only [Option.bind_some, decide_eq_true_eq]
  by_cases h : D_dev p k c d ∧ D_vol p v u g
  · rw [if_pos h, if_pos h]
    by_cases h1 : 1 ≤ a ∧ a ≤ 5000
    · rw [if_pos h1, if_pos h1, L_implStrength h.1 h.2]
      have hs := L_strengthRange h.1 h.2
      have hr := L_slowRange (D_strength p k v u g)
      have hv := h.2
      unfold D_vol at hv
      simp only [Option.bind_some]
      rw [L_implSlower hs hn]
      simp only [Option.bind_some, L_areThirds, decide_eq_true_eq]
      rw [L_w (x := u + a) (by omega), L_checked h.1]
      simp only [Option.bind_some]
      by_cases h2 : D_slow (D_strength p k v u g) ≤ 36
      · rw [if_pos ⟨hr.1, h2⟩]
        by_cases h3 : D_vol p v (u + a) g
        · rw [if_pos h3, if_pos ⟨h2, h3⟩]
        · rw [if_neg h3, if_neg (fun x => h3 x.2)]
      · rw [if_neg (by omega), if_neg (fun x => h2 x.1)]
    · rw [if_neg h1, if_neg h1]
  · rw [if_neg h, if_neg h]


theorem L_st {q : Prop} [Decidable q] (h : q) : some true = some (decide q) := by rw [decide_eq_true h]

theorem L_eqBath (a b c d e f : Int) : laws_eqBath.f a b c d e f = some (decide (a = d ∧ b = e ∧ c = f)) := by
  unfold laws_eqBath.f
  repeat' split
  all_goals first | exact L_st (by omega) | exact L_sf (by omega)

theorem FnExactDevelopSheet : ∀ (a0_0 : Int) (a0_1 : Int) (a0_2 : Int) (a0_3 : Int) (a1_0 : Int) (a1_1 : Int) (a1_2 : Int) (a2 : Int), -9223372036854775808 ≤ a0_0 → a0_0 ≤ 9223372036854775807 → -9223372036854775808 ≤ a0_1 → a0_1 ≤ 9223372036854775807 → -128 ≤ a0_2 → a0_2 ≤ 127 → -128 ≤ a0_3 → a0_3 ≤ 127 → -9223372036854775808 ≤ a1_0 → a1_0 ≤ 9223372036854775807 → -9223372036854775808 ≤ a1_1 → a1_1 ≤ 9223372036854775807 → -9223372036854775808 ≤ a1_2 → a1_2 ≤ 9223372036854775807 → -9223372036854775808 ≤ a2 → a2 ≤ 9223372036854775807 → ∃ k, laws_FnExactDevelopSheet.f k a0_0 a0_1 a0_2 a0_3 a1_0 a1_1 a1_2 a2 = some true := by
  intro p k c d v u g a _ _ _ _ hc hc' hd hd' _ _ _ _ _ _ _ _
  refine ⟨60, ?_⟩
  unfold laws_FnExactDevelopSheet.f laws_toDeveloper.f laws_toBath.f
  simp only [Option.bind_some]
  rw [L_specDevSheet ⟨hc, hc'⟩ ⟨hd, hd'⟩ (by omega), L_implDevSheet ⟨hc, hc'⟩ ⟨hd, hd'⟩ (by omega)]
  simp [L_eqBath]

end Go.Proofs.Ytiaaibiodolcgaa.Pure
