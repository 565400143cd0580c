-- Plain lemmas on baths.
import Derived.Test.YtldhgldknefjdaaQx3
import Derived.Test.YtldhgldknefjdaaQx4
import Derived.Test.YtldhgldknefjdaaQx5
import Derived.Test.YtldhgldknefjdaaQx6
import Derived.Test.YtldhgldknefjdaaQx7
import Derived.Test.YtldhgldknefjdaaArrKit
import Derived.Laws.Bits64b
namespace Go.Proofs.Ytldhgldknefjdaa.PL
open Go.RowKit Go.Proofs.Ytldhgldknefjdaa.Q Go.Proofs.YtldhgldknefjdaaW.PrintWords Go.Proofs.YtldhgldknefjdaaW.PrintLast Go.Proofs.YtldhgldknefjdaaW.PrintMore
set_option linter.unusedVariables false
set_option linter.unusedSimpArgs false
def D_slowFrom (s : Int) : Nat → Int → Int
  | 0, i => i
  | d + 1, i => if tmv i * s < 1000000 then D_slowFrom s d (i + 1) else i

def D_slow (s : Int) : Int := D_slowFrom s 37 0

theorem L_slowFrom (s : Int) (d : Nat) : ∀ i : Int, 0 ≤ i → i + d = 37 → i ≤ D_slowFrom s d i ∧ D_slowFrom s d i ≤ 37 ∧ (∀ j, i ≤ j → j < D_slowFrom s d i → tmv j * s < 1000000) ∧ (D_slowFrom s d i ≤ 36 → 1000000 ≤ tmv (D_slowFrom s d i) * s) := by
  induction d with
  | zero => intro i h0 hd; unfold D_slowFrom; exact ⟨by omega, by omega, fun j h1 h2 => by omega, fun h => by omega⟩
  | succ d ih =>
    intro i h0 hd
    unfold D_slowFrom
    split
    · rename_i hlt
      obtain ⟨h1, h2, h3, h4⟩ := ih (i + 1) (by omega) (by omega)
      refine ⟨by omega, h2, fun j hj hj2 => ?_, h4⟩
      by_cases e : j = i
      · rw [e]; exact hlt
      · exact h3 j (by omega) hj2
    · rename_i hge
      exact ⟨by omega, by omega, fun j h1 h2 => by omega, fun _ => by omega⟩

theorem L_slowRange (s : Int) : 0 ≤ D_slow s ∧ D_slow s ≤ 37 := by
  have := L_slowFrom s 37 0 (by omega) (by omega)
  exact ⟨this.1, this.2.1⟩

theorem L_sd {p q : Prop} [Decidable p] [Decidable q] (h : p ↔ q) : some (decide p) = some (decide q) := by rw [decide_eq_decide.mpr h]

theorem L_sf {q : Prop} [Decidable q] (h : ¬ q) : some false = some (decide q) := by rw [decide_eq_false h]

theorem L_within (a b c : Int) : impl_within.f a b c = some (decide (b ≤ a ∧ a ≤ c)) := by
  unfold impl_within.f
  split
  · exact L_sd (by omega)
  · exact L_sf (by omega)

theorem L_areThirds (a : Int) : impl_areThirds.f a = some (decide (0 ≤ a ∧ a ≤ 36)) := by
  unfold impl_areThirds.f; rw [L_within]; rfl

theorem L_timeOf {k : Int} (h : 0 ≤ k ∧ k ≤ 36) : impl_timeOf.f k = some (tmv k) := by
  unfold impl_timeOf.f; rw [if_pos h.1, if_pos h.2]

theorem L_implTimeOf {t : Int} (ht : 0 ≤ t ∧ t ≤ 36) : impl_TimeOf.f t = some (tmv t, 0) := by
  unfold impl_TimeOf.f
  rw [L_areThirds, decide_eq_true ht]
  simp only [Option.bind_some, if_true]
  rw [L_timeOf ht]
  rfl

theorem L_tmvAll : ∀ n : Nat, n < 37 → 1000 ≤ tmv n ∧ tmv n ≤ 4096000 := by decide

theorem L_tmv {k : Int} (h : 0 ≤ k ∧ k ≤ 36) : 1000 ≤ tmv k ∧ tmv k ≤ 4096000 := by
  obtain ⟨n, rfl⟩ : ∃ n : Nat, k = n := ⟨k.toNat, by omega⟩
  exact L_tmvAll n (by omega)

theorem L_mulb {x y X Y : Int} (h : 0 ≤ x) (hx : x ≤ X) (k : 0 ≤ y) (ky : y ≤ Y) : 0 ≤ x * y ∧ x * y ≤ X * Y :=
  ⟨Int.mul_nonneg h k, Int.mul_le_mul hx ky k (Int.le_trans h hx)⟩

theorem L_w {x : Int} (h : -9223372036854775808 ≤ x ∧ x ≤ 9223372036854775807) : wrap64 x = x := by unfold wrap64; omega

theorem L_tms {k s : Int} (h : 0 ≤ k ∧ k ≤ 36) (hs : 0 ≤ s ∧ s ≤ 1000) : wrap64 (tmv k * s) = tmv k * s := by
  have h1 := L_tmv h
  have h2 := L_mulb (x := tmv k) (y := s) (X := 4096000) (Y := 1000) (by omega) (by omega) hs.1 hs.2
  exact L_w (by omega)

theorem L_implSlowFrom {s : Int} (hs : 0 ≤ s ∧ s ≤ 1000) (d : Nat) : ∀ (k : Nat) (i : Int), 0 ≤ i → i + d = 37 → d < k → impl_slower.l0 k s i = some (D_slowFrom s d i) := by
  induction d with
  | zero =>
    intro k i h0 hd hk
    obtain ⟨k, rfl⟩ : ∃ m, k = m + 1 := ⟨k - 1, by omega⟩
    simp only [impl_slower.l0, D_slowFrom, L_areThirds, Option.bind_some, decide_eq_true_eq]
    rw [if_neg (by omega)]
  | succ d ih =>
    intro k i h0 hd hk
    obtain ⟨k, rfl⟩ : ∃ m, k = m + 1 := ⟨k - 1, by omega⟩
    simp only [impl_slower.l0, D_slowFrom, L_areThirds, Option.bind_some, decide_eq_true_eq]
    rw [if_pos (by omega), L_timeOf (by omega)]
    simp only [Option.bind_some]
    rw [L_tms (by omega) hs]
    by_cases h : tmv i * s < 1000000
    · rw [if_pos h, L_w (x := i + 1) (by omega), if_pos h]
      exact ih k (i + 1) (by omega) (by omega) (by omega)
    · rw [if_neg h, if_neg h]

theorem L_implSlower {s : Int} (hs : 0 ≤ s ∧ s ≤ 1000) {k : Nat} (hk : 38 ≤ k) : impl_slower.f k s = some (D_slow s) :=
  L_implSlowFrom hs 37 k 0 (by omega) (by omega) (by omega)

theorem L_implSlowerBy (s : Int) {k : Nat} (hk : 38 ≤ k) : impl_SlowerBy.f k s = some (if 0 ≤ s ∧ s ≤ 1000 then (if D_slow s ≤ 36 then (D_slow s, 0) else (0, 6)) else (0, 2)) := by
  unfold impl_SlowerBy.f impl_isStrength.f
  rw [L_within]
  simp only [Option.bind_some, decide_eq_true_eq]
  split
  · rename_i hs
    have := L_slowRange s
    rw [L_implSlower hs hk]
    simp only [Option.bind_some, L_areThirds, decide_eq_true_eq]
    by_cases h : D_slow s ≤ 36
    · rw [if_pos (by omega), if_pos h]
    · rw [if_neg (by omega), if_neg h]
  · rfl

theorem L_in (a b c : Int) : spec_l00In.f a b c = some (decide (b ≤ a ∧ a ≤ c)) := by
  unfold spec_l00In.f
  split
  · exact L_sd (by omega)
  · exact L_sf (by omega)

theorem L_specTimeAll : ∀ n : Nat, n < 37 → spec_l01Time.f n = some (tmv n) := by decide +kernel

theorem L_specTime {k : Int} (h : 0 ≤ k ∧ k ≤ 36) : spec_l01Time.f k = some (tmv k) := by
  obtain ⟨n, rfl⟩ : ∃ n : Nat, k = n := ⟨k.toNat, by omega⟩
  exact L_specTimeAll n (by omega)

theorem L_specSlowFrom {s : Int} (hs : 0 ≤ s ∧ s ≤ 1000) (d : Nat) : ∀ (k : Nat) (i : Int), 0 ≤ i → i + d = 37 → d < k → spec_l04Slower.l0 k s i = some (if D_slowFrom s d i ≤ 36 then D_slowFrom s d i else -1) := by
  induction d with
  | zero =>
    intro k i h0 hd hk
    obtain ⟨k, rfl⟩ : ∃ m, k = m + 1 := ⟨k - 1, by omega⟩
    have e : D_slowFrom s 0 i = i := rfl
    simp only [spec_l04Slower.l0]
    rw [if_neg (by omega), e, if_neg (by omega)]
  | succ d ih =>
    intro k i h0 hd hk
    obtain ⟨k, rfl⟩ : ∃ m, k = m + 1 := ⟨k - 1, by omega⟩
    simp only [spec_l04Slower.l0]
    rw [if_pos (by omega), L_specTime (by omega)]
    simp only [Option.bind_some]
    rw [L_tms (by omega) hs]
    by_cases h : tmv i * s < 1000000
    · have e : D_slowFrom s (d + 1) i = D_slowFrom s d (i + 1) := by simp only [D_slowFrom]; rw [if_pos h]
      rw [if_neg (by omega), L_w (x := i + 1) (by omega), e]
      exact ih k (i + 1) (by omega) (by omega) (by omega)
    · have e : D_slowFrom s (d + 1) i = i := by simp only [D_slowFrom]; rw [if_neg h]
      rw [if_pos (by omega), e, if_pos (by omega)]

theorem L_specSlower {s : Int} (hs : 0 ≤ s ∧ s ≤ 1000) {k : Nat} (hk : 38 ≤ k) : spec_l04Slower.f k s = some (if D_slow s ≤ 36 then D_slow s else -1) :=
  L_specSlowFrom hs 37 k 0 (by omega) (by omega) (by omega)

theorem L_specSlowerBy (s : Int) {k : Nat} (hk : 38 ≤ k) : spec_SlowerBy.f k s = some (if 0 ≤ s ∧ s ≤ 1000 then (if D_slow s ≤ 36 then (D_slow s, 0) else (0, 6)) else (0, 2)) := by
  unfold spec_SlowerBy.f
  rw [L_in]
  simp only [Option.bind_some, decide_eq_true_eq]
  split
  · rename_i hs
    have := L_slowRange s
    rw [L_specSlower hs hk]
    simp only [Option.bind_some]
    by_cases h : D_slow s ≤ 36
    · rw [if_pos h, if_pos h, if_neg (by omega)]
    · rw [if_neg h, if_neg h, if_pos (by omega)]
  · rfl

theorem L_tmvMonoAll : ∀ i : Nat, i < 37 → ∀ j : Nat, j < 37 → i ≤ j → tmv i ≤ tmv j := by decide +kernel

theorem L_tmvMono {i j : Int} (h0 : 0 ≤ i) (h : i ≤ j) (h1 : j ≤ 36) : tmv i ≤ tmv j := by
  obtain ⟨n, rfl⟩ : ∃ n : Nat, i = n := ⟨i.toNat, by omega⟩
  obtain ⟨m, rfl⟩ : ∃ m : Nat, j = m := ⟨j.toNat, by omega⟩
  exact L_tmvMonoAll n (by omega) m (by omega) (by omega)

theorem L_slowIff {s t : Int} (hs : 0 ≤ s) (ht : 0 ≤ t ∧ t ≤ 36) : 1000000 ≤ tmv t * s ↔ D_slow s ≤ t := by
  obtain ⟨_, _, h3, h4⟩ := L_slowFrom s 37 0 (by omega) (by omega)
  have hr := L_slowRange s
  constructor
  · intro h
    rcases Int.lt_or_le t (D_slow s) with hlt | hle
    · have := h3 t ht.1 hlt
      omega
    · exact hle
  · intro h
    have h5 := h4 (by unfold D_slow at h; omega)
    have h6 := L_tmvMono (i := D_slow s) (j := t) hr.1 h ht.2
    have h7 : tmv (D_slow s) * s ≤ tmv t * s := Int.mul_le_mul_of_nonneg_right h6 hs
    unfold D_slow at h7
    omega

theorem L_gbSlow {S : Int} (hS : 0 ≤ S ∧ S ≤ 1000) : ∃ K tw, impl_SlowerBy.f 60 S = some (K, tw) ∧ spec_SlowerBy.f 60 S = some (K, tw) ∧ (D_slow S ≤ 36 → tw = 0) ∧ (tw = 0 ∨ tw = 6) ∧
    (tw = 0 → ∃ T, impl_TimeOf.f K = some (T, 0) ∧ wrap64 (T * S) = T * S ∧ ¬ T * S < 1000000 ∧ (0 < K → wrap64 (K - 1) = K - 1 ∧ ∃ T', impl_TimeOf.f (K - 1) = some (T', 0) ∧ wrap64 (T' * S) = T' * S ∧ ¬ 1000000 ≤ T' * S)) := by
  have h0 := L_slowRange S
  by_cases hs : D_slow S ≤ 36
  · refine ⟨D_slow S, 0, ?_, ?_, fun _ => rfl, .inl rfl, fun _ => ⟨tmv (D_slow S), L_implTimeOf (by omega), L_tms (by omega) hS, ?_, fun hp => ⟨L_w (by omega), tmv (D_slow S - 1), L_implTimeOf (by omega), L_tms (by omega) hS, fun h => ?_⟩⟩⟩
    · rw [L_implSlowerBy _ (by omega), if_pos hS, if_pos hs]
    · rw [L_specSlowerBy _ (by omega), if_pos hS, if_pos hs]
    · have := (L_slowIff hS.1 (t := D_slow S) (by omega)).2 (Int.le_refl _); omega
    · have := (L_slowIff hS.1 (t := D_slow S - 1) (by omega)).1 h; omega
  · refine ⟨0, 6, ?_, ?_, fun h => absurd h hs, .inr rfl, fun h => absurd h (by decide)⟩
    · rw [L_implSlowerBy _ (by omega), if_pos hS, if_neg hs]
    · rw [L_specSlowerBy _ (by omega), if_pos hS, if_neg hs]

def D_dev (a b c d : Int) : Prop := 100 ≤ a ∧ a ≤ 100000 ∧ 1 ≤ b ∧ b ≤ 100000 ∧ 10 ≤ c ∧ c ≤ 40 ∧ 1 ≤ d ∧ d ≤ 10
instance (a b c d : Int) : Decidable (D_dev a b c d) := by unfold D_dev; infer_instance

def D_vol (p v u g : Int) : Prop := 1 ≤ v ∧ v ≤ 20000 ∧ 0 ≤ u ∧ u ≤ 100000000 ∧ 0 ≤ g ∧ g ≤ 100000 ∧ 1000 * u ≤ v * p
instance (p v u g : Int) : Decidable (D_vol p v u g) := by unfold D_vol; infer_instance

def D_strength (per keeps vol used age : Int) : Int := if age ≥ keeps then 0 else 1000 * (vol * per - 1000 * used) / (vol * per) * (keeps - age) / keeps

def D_sheet (p k c d v u g a : Int) : Int × Int × Int × Int :=
  if D_dev p k c d ∧ D_vol p v u g then (if 1 ≤ a ∧ a ≤ 5000 then (if D_slow (D_strength p k v u g) ≤ 36 ∧ D_vol p v (u + a) g then (v, u + a, g, 0) else (0, 0, 0, 4)) else (0, 0, 0, 2)) else (0, 0, 0, 1)

theorem L_implDev {a b c d : Int} (hc : -128 ≤ c ∧ c ≤ 127) (hd : -128 ≤ d ∧ d ≤ 127) : impl_ValidDeveloper.f a b c d = some (decide (D_dev a b c d)) := by
  unfold impl_ValidDeveloper.f
  rw [L_w (x := c) (by omega), L_w (x := d) (by omega)]
  simp only [L_within, Option.bind_some, decide_eq_true_eq]
  unfold D_dev
  repeat' split
  all_goals first | exact L_sd (by omega) | exact L_sf (by omega)

theorem L_isVolume (v : Int) : impl_isVolume.f v = some (decide (1 ≤ v ∧ v ≤ 20000)) := by
  unfold impl_isVolume.f; rw [L_within]; rfl

theorem L_isBath {a b c d v u g : Int} (hD : D_dev a b c d) : impl_isBath.f a b c d v u g = some (decide (D_vol a v u g)) := by
  unfold impl_isBath.f
  simp only [L_isVolume, L_within, Option.bind_some, decide_eq_true_eq]
  have hDD := hD
  unfold D_dev at hDD
  by_cases h1 : 1 ≤ v ∧ v ≤ 20000
  · by_cases h2 : 0 ≤ u ∧ u ≤ 100000000
    · by_cases h3 : 0 ≤ g ∧ g ≤ 100000
      · rw [if_pos h1, if_pos h2, if_pos h3]
        have := L_mulb (x := v) (y := a) (X := 20000) (Y := 100000) (by omega) (by omega) (by omega) (by omega)
        rw [L_w (x := 1000 * u) (by omega), L_w (x := v * a) (by omega)]
        refine L_sd ?_
        unfold D_vol
        constructor
        · intro h; omega
        · intro h; omega
      · rw [if_pos h1, if_pos h2, if_neg h3]; refine L_sf ?_; unfold D_vol; omega
    · rw [if_pos h1, if_neg h2]; refine L_sf ?_; unfold D_vol; omega
  · rw [if_neg h1]; refine L_sf ?_; unfold D_vol; omega

theorem L_implBath {a b c d v u g : Int} (hc : -128 ≤ c ∧ c ≤ 127) (hd : -128 ≤ d ∧ d ≤ 127) : impl_ValidBath.f a b c d v u g = some (decide (D_dev a b c d ∧ D_vol a v u g)) := by
  unfold impl_ValidBath.f
  rw [L_implDev hc hd]
  simp only [Option.bind_some, decide_eq_true_eq]
  by_cases hD : D_dev a b c d
  · rw [if_pos hD, L_isBath hD]
    exact L_sd (by simp [hD])
  · rw [if_neg hD]; exact L_sf (fun h => hD h.1)

theorem L_isArea (a : Int) : impl_isArea.f a = some (decide (1 ≤ a ∧ a ≤ 5000)) := by unfold impl_isArea.f; rw [L_within]; rfl

theorem L_quot {a b q : Int} (ha : 0 ≤ a) (hb : 0 < b) (h : a ≤ q * b) : 0 ≤ a / b ∧ a / b ≤ q := by
  refine ⟨Int.ediv_nonneg ha (by omega), ?_⟩
  have := Int.ediv_le_ediv hb h
  rwa [Int.mul_ediv_cancel _ (by omega)] at this

theorem L_strengthParts {p k v u g : Int} {a b c d : Int} (hD : D_dev p k c d) (hV : D_vol p v u g) (hg : g < k) :
    (0 < v * p ∧ v * p ≤ 2000000000) ∧ (0 ≤ 1000 * (v * p - 1000 * u) / (v * p) ∧ 1000 * (v * p - 1000 * u) / (v * p) ≤ 1000) ∧
    (0 ≤ 1000 * (v * p - 1000 * u) / (v * p) * (k - g) ∧ 1000 * (v * p - 1000 * u) / (v * p) * (k - g) ≤ 1000 * k) := by
  unfold D_dev at hD
  unfold D_vol at hV
  have h1 := L_mulb (x := v) (y := p) (X := 20000) (Y := 100000) (by omega) (by omega) (by omega) (by omega)
  have h2 : 0 < v * p := Int.mul_pos (by omega) (by omega)
  have h3 := L_quot (a := 1000 * (v * p - 1000 * u)) (b := v * p) (q := 1000) (by omega) h2 (by omega)
  have h4 := L_mulb (x := 1000 * (v * p - 1000 * u) / (v * p)) (y := k - g) (X := 1000) (Y := k) h3.1 h3.2 (by omega) (by omega)
  exact ⟨⟨h2, by omega⟩, h3, h4⟩

theorem L_implStrength {p k v u g c d : Int} (hD : D_dev p k c d) (hV : D_vol p v u g) : impl_Bath_strength.f v u g p k c d = some (D_strength p k v u g) := by
  unfold impl_Bath_strength.f D_strength
  have hDD := hD
  have hVV := hV
  unfold D_dev at hDD
  unfold D_vol at hVV
  have h1 := L_mulb (x := v) (y := p) (X := 20000) (Y := 100000) (by omega) (by omega) (by omega) (by omega)
  have h0 : 0 < v * p := Int.mul_pos (by omega) (by omega)
  have h3 := L_quot (a := 1000 * (v * p - 1000 * u)) (b := v * p) (q := 1000) (by omega) h0 (by omega)
  rw [L_w (x := v * p) (by omega), if_neg (by omega), if_neg (by omega), L_w (x := 1000 * u) (by omega), L_w (x := v * p - 1000 * u) (by omega), L_w (x := 1000 * (v * p - 1000 * u)) (by omega),
      Int.tdiv_eq_ediv_of_nonneg (a := 1000 * (v * p - 1000 * u)) (by omega), L_w (x := 1000 * (v * p - 1000 * u) / (v * p)) (by omega), L_w (x := k - g) (by omega)]
  by_cases hg : g ≥ k
  · rw [if_pos hg, show mx 0 (k - g) = 0 by unfold mx; omega, Int.mul_zero]
    simp [wrap64]
  · obtain ⟨_, h2, h3⟩ := L_strengthParts (a := 0) (b := 0) hD hV (by omega)
    have h4 := L_quot h3.1 (show 0 < k by omega) h3.2
    rw [if_neg hg, show mx 0 (k - g) = k - g by unfold mx; omega, L_w (x := 1000 * (v * p - 1000 * u) / (v * p) * (k - g)) (by omega), Int.tdiv_eq_ediv_of_nonneg h3.1, L_w (by omega)]

theorem L_strengthRange {p k v u g c d : Int} (hD : D_dev p k c d) (hV : D_vol p v u g) : 0 ≤ D_strength p k v u g ∧ D_strength p k v u g ≤ 1000 := by
  unfold D_strength
  split
  · omega
  · rename_i hg
    have hh := L_strengthParts (a := 0) (b := 0) hD hV (by omega)
    unfold D_dev at hD
    exact L_quot hh.2.2.1 (by omega) hh.2.2.2

theorem L_checked {p k c d v u g e : Int} (hD : D_dev p k c d) : impl_checked.f p k c d v u g e = some (if D_vol p v u g then (v, u, g, 0) else (0, 0, 0, e)) := by
  unfold impl_checked.f
  rw [L_isBath hD]
  simp only [Option.bind_some, decide_eq_true_eq]
  split <;> rfl

theorem L_implDevSheet {p k c d v u g a : Int} (hc : -128 ≤ c ∧ c ≤ 127) (hd : -128 ≤ d ∧ d ≤ 127) {n : Nat} (hn : 38 ≤ n) : impl_DevelopSheet.f n p k c d v u g a = some (D_sheet p k c d v u g a) := by
  unfold impl_DevelopSheet.f D_sheet
  rw [L_implBath hc hd, L_isArea]
  simp only [Option.bind_some, decide_eq_true_eq]
  by_cases h : D_dev p k c d ∧ D_vol p v u g
  · rw [if_pos h, if_pos h]
    by_cases h1 : 1 ≤ a ∧ a ≤ 5000
    · rw [if_pos h1, if_pos h1, L_implStrength h.1 h.2]
      have hs := L_strengthRange h.1 h.2
      have hr := L_slowRange (D_strength p k v u g)
      have hv := h.2
      unfold D_vol at hv
      simp only [Option.bind_some]
      rw [L_implSlower hs hn]
      simp only [Option.bind_some, L_areThirds, decide_eq_true_eq]
      rw [L_w (x := u + a) (by omega), L_checked h.1]
      simp only [Option.bind_some]
      by_cases h2 : D_slow (D_strength p k v u g) ≤ 36
      · rw [if_pos ⟨hr.1, h2⟩]
        by_cases h3 : D_vol p v (u + a) g
        · rw [if_pos h3, if_pos ⟨h2, h3⟩]
        · rw [if_neg h3, if_neg (fun x => h3 x.2)]
      · rw [if_neg (by omega), if_neg (fun x => h2 x.1)]
    · rw [if_neg h1, if_neg h1]
  · rw [if_neg h, if_neg h]

theorem L_specDev {a b c d : Int} (hc : -128 ≤ c ∧ c ≤ 127) (hd : -128 ≤ d ∧ d ≤ 127) : spec_l04Developer.f a b c d = some (decide (D_dev a b c d)) := by
  unfold spec_l04Developer.f
  rw [L_w (x := c) (by omega), L_w (x := d) (by omega)]
  simp only [L_in, Option.bind_some, decide_eq_true_eq]
  unfold D_dev
  repeat' split
  all_goals first | exact L_sd (by omega) | exact L_sf (by omega)

theorem L_specOk {a b c d v u g : Int} (hc : -128 ≤ c ∧ c ≤ 127) (hd : -128 ≤ d ∧ d ≤ 127) : spec_l04Ok.f a b c d v u g = some (decide (D_dev a b c d ∧ D_vol a v u g)) := by
  unfold spec_l04Ok.f
  rw [L_specDev hc hd]
  simp only [L_in, Option.bind_some, decide_eq_true_eq]
  by_cases hD : D_dev a b c d
  · have hDD := hD
    unfold D_dev at hDD
    rw [if_pos hD]
    by_cases h1 : 1 ≤ v ∧ v ≤ 20000
    · by_cases h2 : 0 ≤ u ∧ u ≤ 100000000
      · by_cases h3 : 0 ≤ g ∧ g ≤ 100000
        · rw [if_pos h1, if_pos h2, if_pos h3]
          have := L_mulb (x := v) (y := a) (X := 20000) (Y := 100000) (by omega) (by omega) (by omega) (by omega)
          rw [L_w (x := 1000 * u) (by omega), L_w (x := v * a) (by omega)]
          refine L_sd ?_
          unfold D_vol
          constructor
          · intro h; exact ⟨hD, by omega⟩
          · intro h; omega
        · rw [if_pos h1, if_pos h2, if_neg h3]; refine L_sf ?_; unfold D_vol; omega
      · rw [if_pos h1, if_neg h2]; refine L_sf ?_; unfold D_vol; omega
    · rw [if_neg h1]; refine L_sf ?_; unfold D_vol; omega
  · rw [if_neg hD]; exact L_sf (fun h => hD h.1)

theorem L_specStrength {p k v u g c d : Int} (hD : D_dev p k c d) (hV : D_vol p v u g) : spec_l04Strength.f p k c d v u g = some (D_strength p k v u g) := by
  unfold spec_l04Strength.f D_strength
  by_cases hg : g ≥ k
  · rw [if_pos hg, if_pos hg]
  · rw [if_neg hg, if_neg hg]
    obtain ⟨h1, h2, h3⟩ := L_strengthParts (a := 0) (b := 0) hD hV (by omega)
    unfold D_dev at hD
    unfold D_vol at hV
    have h4 := L_quot h3.1 (show 0 < k by omega) h3.2
    rw [L_w (x := v * p) (by omega), if_neg (by omega), if_neg (by omega), L_w (x := 1000 * u) (by omega), L_w (x := v * p - 1000 * u) (by omega), L_w (x := 1000 * (v * p - 1000 * u)) (by omega),
      Int.tdiv_eq_ediv_of_nonneg (a := 1000 * (v * p - 1000 * u)) (by omega), L_w (x := 1000 * (v * p - 1000 * u) / (v * p)) (by omega), L_w (x := k - g) (by omega),
      L_w (x := 1000 * (v * p - 1000 * u) / (v * p) * (k - g)) (by omega), Int.tdiv_eq_ediv_of_nonneg h3.1, L_w (by omega)]

theorem L_specSheet {p k c d v u g a : Int} (hc : -128 ≤ c ∧ c ≤ 127) (hd : -128 ≤ d ∧ d ≤ 127) (hD : D_dev p k c d) (hV : D_vol p v u g) (ha : 1 ≤ a ∧ a ≤ 5000) {n : Nat} (hn : 38 ≤ n) :
    spec_l04Sheet.f n p k c d v u g a = some (if D_slow (D_strength p k v u g) ≤ 36 then (v, u + a, g, decide (D_vol p v (u + a) g)) else (0, 0, 0, false)) := by
  unfold spec_l04Sheet.f
  have hs := L_strengthRange hD hV
  have hr := L_slowRange (D_strength p k v u g)
  have hv := hV
  unfold D_vol at hv
  rw [L_specStrength hD hV]
  simp only [Option.bind_some]
  rw [L_specSlower hs hn]
  simp only [Option.bind_some]
  by_cases h : D_slow (D_strength p k v u g) ≤ 36
  · rw [if_pos h, if_neg (by omega), L_w (x := u + a) (by omega), L_specOk hc hd, if_pos h]
    simp [hD]
  · rw [if_neg h, if_pos (by omega), if_neg h]

theorem L_specDevSheet {p k c d v u g a : Int} (hc : -128 ≤ c ∧ c ≤ 127) (hd : -128 ≤ d ∧ d ≤ 127) {n : Nat} (hn : 38 ≤ n) : spec_DevelopSheet.f n p k c d v u g a = some (D_sheet p k c d v u g a) := by
  unfold spec_DevelopSheet.f D_sheet
  rw [L_specOk hc hd, L_in]
  simp only [Option.bind_some, decide_eq_true_eq]
  by_cases h : D_dev p k c d ∧ D_vol p v u g
  · rw [if_pos h, if_pos h]
    by_cases h1 : 1 ≤ a ∧ a ≤ 5000
    · rw [if_pos h1, if_pos h1, L_specSheet hc hd h.1 h.2 h1 hn]
      simp only [Option.bind_some]
      by_cases h2 : D_slow (D_strength p k v u g) ≤ 36
      · rw [if_pos h2]
        by_cases h3 : D_vol p v (u + a) g
        · simp [h2, h3]
        · simp [h3]
      · rw [if_neg h2]
        simp [h2]
    · rw [if_neg h1, if_neg h1]
  · rw [if_neg h, if_neg h]

theorem L_sheetZero {p k c d v u g a : Int} (h : (D_sheet p k c d v u g a).2.2.2 = 0) : D_slow (D_strength p k v u g) ≤ 36 ∧ D_vol p v (u + a) g ∧ D_sheet p k c d v u g a = (v, u + a, g, 0) := by
  unfold D_sheet at h ⊢
  split at h
  · rename_i h1
    rw [if_pos h1]
    split at h
    · rename_i h2
      rw [if_pos h2]
      split at h
      · rename_i h3
        rw [if_pos h3]
        exact ⟨h3.1, h3.2, rfl⟩
      · simp at h
    · simp at h
  · simp at h

theorem L_strengthLess {p k v u g u' g' c d : Int} (hD : D_dev p k c d) (hV : D_vol p v u g) (hV' : D_vol p v u' g') (hu : u ≤ u') (hg : g ≤ g') : D_strength p k v u' g' ≤ D_strength p k v u g := by
  have h0 := L_strengthRange hD hV
  by_cases hk : g' ≥ k
  · unfold D_strength at h0 ⊢
    rw [if_pos hk]
    exact h0.1
  · have a := L_strengthParts (a := 0) (b := 0) hD hV (by omega)
    have a' := L_strengthParts (a := 0) (b := 0) hD hV' (by omega)
    unfold D_strength
    rw [if_neg (by omega), if_neg (by omega)]
    unfold D_dev at hD
    refine Int.ediv_le_ediv (by omega) ?_
    refine Int.le_trans (Int.mul_le_mul_of_nonneg_right (Int.ediv_le_ediv a.1.1 (?_ : 1000 * (v * p - 1000 * u') ≤ 1000 * (v * p - 1000 * u))) (by omega)) (Int.mul_le_mul_of_nonneg_left (by omega) a.2.1.1)
    omega

theorem L_implStrengthOf {p k c d v u g : Int} (hc : -128 ≤ c ∧ c ≤ 127) (hd : -128 ≤ d ∧ d ≤ 127) : impl_StrengthOf.f p k c d v u g = some (if D_dev p k c d ∧ D_vol p v u g then (D_strength p k v u g, 0) else (0, 1)) := by
  unfold impl_StrengthOf.f
  rw [L_implBath hc hd]
  simp only [Option.bind_some, decide_eq_true_eq]
  split
  · rename_i h; rw [L_implStrength h.1 h.2]; rfl
  · rfl

theorem L_gbSheet {p k c d v u g a : Int} (hc : -128 ≤ c ∧ c ≤ 127) (hd : -128 ≤ d ∧ d ≤ 127) (hD : D_dev p k c d) (hV : D_vol p v u g) (ha : 1 ≤ a ∧ a ≤ 200) :
    ∃ s1 s2 s3 c5, impl_DevelopSheet.f 60 p k c d v u g a = some (s1, s2, s3, c5) ∧ spec_DevelopSheet.f 60 p k c d v u g a = some (s1, s2, s3, c5) ∧
      (c5 = 0 → D_slow (D_strength p k v u g) ≤ 36 ∧ s2 = wrap64 (u + a) ∧ ∃ W, impl_StrengthOf.f p k c d s1 s2 s3 = some (W, 0) ∧ ¬ D_strength p k v u g < W) := by
  have hV' := hV
  unfold D_vol at hV'
  refine ⟨(D_sheet p k c d v u g a).1, (D_sheet p k c d v u g a).2.1, (D_sheet p k c d v u g a).2.2.1, (D_sheet p k c d v u g a).2.2.2, L_implDevSheet hc hd (by omega), L_specDevSheet hc hd (by omega), fun h => ?_⟩
  obtain ⟨a1, a2, a3⟩ := L_sheetZero h
  have hs := L_strengthLess hD hV a2 (show u ≤ u + a by omega) (Int.le_refl g)
  rw [a3, L_w (x := u + a) (by omega)]
  refine ⟨a1, rfl, D_strength p k v (u + a) g, ?_, by omega⟩
  rw [L_implStrengthOf hc hd, if_pos ⟨hD, a2⟩]

def D_rest (p k c d v u g m : Int) : Int × Int × Int × Int := if D_dev p k c d ∧ D_vol p v u g then (if 0 ≤ m ∧ m ≤ 100000 then (if D_vol p v u (g + m) then (v, u, g + m, 0) else (0, 0, 0, 4)) else (0, 0, 0, 2)) else (0, 0, 0, 1)

theorem L_implRest {p k c d v u g m : Int} (hc : -128 ≤ c ∧ c ≤ 127) (hd : -128 ≤ d ∧ d ≤ 127) :
    impl_RestBath.f p k c d v u g m = some (if D_dev p k c d ∧ D_vol p v u g then (if 0 ≤ m ∧ m ≤ 100000 then (if D_vol p v u (g + m) then (v, u, g + m, 0) else (0, 0, 0, 4)) else (0, 0, 0, 2)) else (0, 0, 0, 1)) := by
  unfold impl_RestBath.f
  rw [L_implBath hc hd, L_within]
  simp only [Option.bind_some, decide_eq_true_eq]
  split
  · rename_i h
    have hv := h.2
    unfold D_vol at hv
    split
    · rename_i hm
      rw [L_w (x := g + m) (by omega), L_checked h.1]
      simp only [Option.bind_some]
    · rfl
  · rfl

theorem L_specRest {p k c d v u g m : Int} (hc : -128 ≤ c ∧ c ≤ 127) (hd : -128 ≤ d ∧ d ≤ 127) :
    spec_RestBath.f p k c d v u g m = some (if D_dev p k c d ∧ D_vol p v u g then (if 0 ≤ m ∧ m ≤ 100000 then (if D_vol p v u (g + m) then (v, u, g + m, 0) else (0, 0, 0, 4)) else (0, 0, 0, 2)) else (0, 0, 0, 1)) := by
  unfold spec_RestBath.f
  rw [L_specOk hc hd, L_specOk hc hd, L_in]
  simp only [Option.bind_some, decide_eq_true_eq]
  split
  · rename_i h
    have hv := h.2
    unfold D_vol at hv
    split
    · rename_i hm
      rw [L_w (x := g + m) (by omega)]
      by_cases hh : D_vol p v u (g + m)
      · rw [if_pos ⟨h.1, hh⟩, if_pos hh]
      · rw [if_neg (fun x => hh x.2), if_neg hh]
    · rfl
  · rfl

theorem L_restZero {p k c d v u g m : Int} (h : (D_rest p k c d v u g m).2.2.2 = 0) : 0 ≤ m ∧ D_vol p v u (g + m) ∧ D_rest p k c d v u g m = (v, u, g + m, 0) := by
  unfold D_rest at h ⊢
  split at h
  · rename_i h1
    rw [if_pos h1]
    split at h
    · rename_i h2
      rw [if_pos h2]
      split at h
      · rename_i h3
        rw [if_pos h3]
        exact ⟨h2.1, h3, rfl⟩
      · simp at h
    · simp at h
  · simp at h

theorem L_gbRest {p k c d v u g y : Int} (hc : -128 ≤ c ∧ c ≤ 127) (hd : -128 ≤ d ∧ d ≤ 127) (hD : D_dev p k c d) (hV : D_vol p v u g) :
    ∃ o1 o2 o3 c6, impl_RestBath.f p k c d v u g y = some (o1, o2, o3, c6) ∧ spec_RestBath.f p k c d v u g y = some (o1, o2, o3, c6) ∧
      (c6 = 0 → ∃ W, impl_StrengthOf.f p k c d o1 o2 o3 = some (W, 0) ∧ ¬ D_strength p k v u g < W) := by
  refine ⟨(D_rest p k c d v u g y).1, (D_rest p k c d v u g y).2.1, (D_rest p k c d v u g y).2.2.1, (D_rest p k c d v u g y).2.2.2, L_implRest hc hd, L_specRest hc hd, fun h => ?_⟩
  obtain ⟨a1, a2, a3⟩ := L_restZero h
  have hs := L_strengthLess hD hV a2 (Int.le_refl u) (show g ≤ g + y by omega)
  rw [a3]
  refine ⟨D_strength p k v u (g + y), ?_, by omega⟩
  rw [L_implStrengthOf hc hd, if_pos ⟨hD, a2⟩]

def D_fill (v u g m : Int) : Int × Int × Int := (v, u * (v - m) / v, g * (v - m) / v)

theorem L_fillb {x v m X : Int} (hx : 0 ≤ x ∧ x ≤ X) (hv : 1 ≤ v ∧ v ≤ 20000) (hm : 0 ≤ m ∧ m ≤ v) : (0 ≤ x * (v - m) ∧ x * (v - m) ≤ X * 20000) ∧ 0 ≤ x * (v - m) / v ∧ x * (v - m) / v ≤ x := by
  have h1 := L_mulb (x := x) (y := v - m) (X := X) (Y := 20000) hx.1 hx.2 (by omega) (by omega)
  have h2 := L_mulb (x := x) (y := v - m) (X := x) (Y := v) hx.1 (by omega) (by omega) (by omega)
  exact ⟨h1, L_quot h1.1 (by omega) h2.2⟩

theorem L_fillVol {p v u g m : Int} (h : D_vol p v u g) (hm : 0 ≤ m ∧ m ≤ v) : D_vol p (D_fill v u g m).1 (D_fill v u g m).2.1 (D_fill v u g m).2.2 := by
  unfold D_vol at h ⊢
  have h1 := L_fillb (x := u) (v := v) (m := m) (X := 100000000) (by omega) (by omega) hm
  have h2 := L_fillb (x := g) (v := v) (m := m) (X := 100000) (by omega) (by omega) hm
  unfold D_fill
  dsimp only
  omega

theorem L_fillMore {p k v u g c d m : Int} (hD : D_dev p k c d) (hV : D_vol p v u g) (hm : 0 ≤ m ∧ m ≤ v) :
    D_strength p k v u g ≤ D_strength p k (D_fill v u g m).1 (D_fill v u g m).2.1 (D_fill v u g m).2.2 := by
  have hV' := hV
  unfold D_vol at hV'
  have h1 := L_fillb (x := u) (v := v) (m := m) (X := 100000000) (by omega) (by omega) hm
  have h2 := L_fillb (x := g) (v := v) (m := m) (X := 100000) (by omega) (by omega) hm
  exact L_strengthLess hD (L_fillVol hV hm) hV h1.2.2 h2.2.2

theorem L_implFill {p v u g m : Int} (h : D_vol p v u g) (hm : 0 ≤ m ∧ m ≤ v) : impl_Bath_replenished.f v u g m = some (D_fill v u g m) := by
  unfold D_vol at h
  have h1 := L_fillb (x := u) (v := v) (m := m) (X := 100000000) (by omega) (by omega) hm
  have h2 := L_fillb (x := g) (v := v) (m := m) (X := 100000) (by omega) (by omega) hm
  unfold impl_Bath_replenished.f D_fill
  rw [if_neg (by omega), L_w (x := v - m) (by omega), L_w (x := u * (v - m)) (by omega), L_w (x := g * (v - m)) (by omega), Int.tdiv_eq_ediv_of_nonneg h1.1.1, Int.tdiv_eq_ediv_of_nonneg h2.1.1,
    L_w (x := u * (v - m) / v) (by omega), L_w (x := g * (v - m) / v) (by omega)]

theorem L_implReplenish {p k c d v u g m : Int} (hc : -128 ≤ c ∧ c ≤ 127) (hd : -128 ≤ d ∧ d ≤ 127) :
    impl_Replenish.f p k c d v u g m = some (if D_dev p k c d ∧ D_vol p v u g then (if 0 ≤ m ∧ m ≤ v then ((D_fill v u g m).1, (D_fill v u g m).2.1, (D_fill v u g m).2.2, 0) else (0, 0, 0, 2)) else (0, 0, 0, 1)) := by
  unfold impl_Replenish.f
  rw [L_implBath hc hd, L_within]
  simp only [Option.bind_some, decide_eq_true_eq]
  split
  · rename_i h
    split
    · rename_i hm; rw [L_implFill h.2 hm]; rfl
    · rfl
  · rfl

theorem L_specFill {p v u g m : Int} (h : D_vol p v u g) (hm : 0 ≤ m ∧ m ≤ v) : spec_l04Fill.f v u g m = some (D_fill v u g m) := by
  unfold D_vol at h
  have h1 := L_fillb (x := u) (v := v) (m := m) (X := 100000000) (by omega) (by omega) hm
  have h2 := L_fillb (x := g) (v := v) (m := m) (X := 100000) (by omega) (by omega) hm
  unfold spec_l04Fill.f D_fill
  rw [if_neg (by omega), L_w (x := v - m) (by omega), L_w (x := u * (v - m)) (by omega), L_w (x := g * (v - m)) (by omega), Int.tdiv_eq_ediv_of_nonneg h1.1.1, Int.tdiv_eq_ediv_of_nonneg h2.1.1,
    L_w (x := u * (v - m) / v) (by omega), L_w (x := g * (v - m) / v) (by omega)]

theorem L_specReplenish {p k c d v u g m : Int} (hc : -128 ≤ c ∧ c ≤ 127) (hd : -128 ≤ d ∧ d ≤ 127) :
    spec_Replenish.f p k c d v u g m = some (if D_dev p k c d ∧ D_vol p v u g then (if 0 ≤ m ∧ m ≤ v then ((D_fill v u g m).1, (D_fill v u g m).2.1, (D_fill v u g m).2.2, 0) else (0, 0, 0, 2)) else (0, 0, 0, 1)) := by
  unfold spec_Replenish.f
  rw [L_specOk hc hd, L_in]
  simp only [Option.bind_some, decide_eq_true_eq]
  split
  · rename_i h
    split
    · rename_i hm; rw [L_specFill h.2 hm]; rfl
    · rfl
  · rfl

theorem L_gbFill {p k c d v u g m : Int} (hc : -128 ≤ c ∧ c ≤ 127) (hd : -128 ≤ d ∧ d ≤ 127) (hD : D_dev p k c d) (hV : D_vol p v u g) (hm : 0 ≤ m ∧ m ≤ v) :
    ∃ u' g' S, impl_Replenish.f p k c d v u g m = some (v, u', g', 0) ∧ spec_Replenish.f p k c d v u g m = some (v, u', g', 0) ∧ impl_StrengthOf.f p k c d v u' g' = some (S, 0) ∧ D_strength p k v u g ≤ S := by
  have hV1 : D_vol p v (u * (v - m) / v) (g * (v - m) / v) := L_fillVol hV hm
  refine ⟨u * (v - m) / v, g * (v - m) / v, D_strength p k v (u * (v - m) / v) (g * (v - m) / v), ?_, ?_, ?_, L_fillMore hD hV hm⟩
  · rw [L_implReplenish hc hd, if_pos ⟨hD, hV⟩, if_pos hm]; rfl
  · rw [L_specReplenish hc hd, if_pos ⟨hD, hV⟩, if_pos hm]; rfl
  · rw [L_implStrengthOf hc hd, if_pos ⟨hD, hV1⟩]

theorem L_specStrengthOf {p k c d v u g : Int} (hc : -128 ≤ c ∧ c ≤ 127) (hd : -128 ≤ d ∧ d ≤ 127) : spec_StrengthOf.f p k c d v u g = some (if D_dev p k c d ∧ D_vol p v u g then (D_strength p k v u g, 0) else (0, 1)) := by
  unfold spec_StrengthOf.f
  rw [L_specOk hc hd]
  simp only [Option.bind_some, decide_eq_true_eq]
  split
  · rename_i h; rw [L_specStrength h.1 h.2]; rfl
  · rfl

theorem L_gbValid {p k c d v u g : Int} (hc : -128 ≤ c ∧ c ≤ 127) (hd : -128 ≤ d ∧ d ≤ 127) (hD : D_dev p k c d) (hV : D_vol p v u g) :
    impl_StrengthOf.f p k c d v u g = some (D_strength p k v u g, 0) ∧ spec_StrengthOf.f p k c d v u g = some (D_strength p k v u g, 0) ∧ impl_ValidDeveloper.f p k c d = some true ∧ impl_ValidBath.f p k c d v u g = some true := by
  refine ⟨?_, ?_, ?_, ?_⟩
  · rw [L_implStrengthOf hc hd, if_pos ⟨hD, hV⟩]
  · rw [L_specStrengthOf hc hd, if_pos ⟨hD, hV⟩]
  · rw [L_implDev hc hd, decide_eq_true hD]
  · rw [L_implBath hc hd, decide_eq_true (show D_dev p k c d ∧ D_vol p v u g from ⟨hD, hV⟩)]


theorem L_mixWater {p k c d v u g x : Int} (hc : -128 ≤ c ∧ c ≤ 127) (hd : -128 ≤ d ∧ d ≤ 127) (hD : D_dev p k c d) (hV : D_vol p v u g) (hv : v ≤ 2000) (hx : 1 ≤ x ∧ x ≤ 100) {n : Nat} (hn : 1 ≤ n) :
    ∃ q, spec_MixBaths.f n p k c d v u g x 0 0 = some (v + x, u, q, 0) ∧ impl_MixBaths.f p k c d v u g x 0 0 = some (v + x, u, q, 0) ∧ q ≤ g := by
  obtain ⟨n, rfl⟩ : ∃ m, n = m + 1 := ⟨n - 1, by omega⟩
  have hD' := hD
  have hV' := hV
  unfold D_dev at hD'
  unfold D_vol at hV'
  have hX : D_vol p x 0 0 := by
    have := L_mulb (x := x) (y := p) (X := 100) (Y := 100000) (by omega) (by omega) (by omega) (by omega)
    unfold D_vol; omega
  have m1 := L_mulb (x := g) (y := v) (X := 100000) (Y := 20000) (by omega) (by omega) (by omega) (by omega)
  have m2 := L_quot (a := g * v) (b := v + x) (q := g) m1.1 (by omega) (Int.mul_le_mul_of_nonneg_left (by omega) (by omega))
  have m3 : v * p ≤ (v + x) * p := Int.mul_le_mul_of_nonneg_right (by omega) (by omega)
  have hY : D_vol p (v + x) u (g * v / (v + x)) := by unfold D_vol; omega
  refine ⟨g * v / (v + x), ?_, ?_, m2.2⟩
  · unfold spec_MixBaths.f spec_MixBaths.j0
    rw [L_specOk hc hd, L_specOk hc hd, decide_eq_true (show D_dev p k c d ∧ D_vol p v u g from ⟨hD, hV⟩), decide_eq_true (show D_dev p k c d ∧ D_vol p x 0 0 from ⟨hD, hX⟩)]
    simp only [Option.bind_some, if_true, Bool.not_true, Bool.false_eq_true, if_false, Int.zero_mul, Int.add_zero]
    rw [L_w (x := v + x) (by omega), L_w (x := u) (by omega), L_w (x := g * v) (by omega), L_w (x := (0 : Int)) (by omega), Int.add_zero, L_w (x := g * v) (by omega), if_neg (by omega), Int.tdiv_eq_ediv_of_nonneg m1.1, L_w (x := g * v / (v + x)) (by omega), L_specOk hc hd,
      decide_eq_true (show D_dev p k c d ∧ D_vol p (v + x) u (g * v / (v + x)) from ⟨hD, hY⟩)]
    rfl
  · unfold impl_MixBaths.f
    rw [L_implBath hc hd, L_implBath hc hd, decide_eq_true (show D_dev p k c d ∧ D_vol p v u g from ⟨hD, hV⟩), decide_eq_true (show D_dev p k c d ∧ D_vol p x 0 0 from ⟨hD, hX⟩)]
    simp only [Option.bind_some, if_true, Int.zero_mul, Int.add_zero]
    rw [L_w (x := v + x) (by omega), L_w (x := u) (by omega), L_w (x := g * v) (by omega), L_w (x := (0 : Int)) (by omega), Int.add_zero, L_w (x := g * v) (by omega), if_neg (by omega), Int.tdiv_eq_ediv_of_nonneg m1.1, L_w (x := g * v / (v + x)) (by omega), L_checked hD, if_pos hY]
    rfl

theorem L_rdByte {l : List Int} (hl : ∀ x ∈ l, 0 ≤ x ∧ x ≤ 255) (i : Int) : 0 ≤ rd l i ∧ rd l i ≤ 255 := by
  unfold rd
  by_cases h : i.toNat < l.length
  · have := hl _ (List.getElem_mem h)
    simpa [List.getD, List.getElem?_eq_getElem h] using this
  · simp [List.getD, List.getElem?_eq_none (Nat.le_of_not_lt h)]

theorem L_and255 (x : Int) : 0 ≤ Go.bits .and .u64 (IntKind.u64.wrap x / 1099511627776) 255 ∧ Go.bits .and .u64 (IntKind.u64.wrap x / 1099511627776) 255 ≤ 255 := by
  rw [IntKind.wrap_u64]
  obtain ⟨n, hn⟩ : ∃ n : Nat, x % 18446744073709551616 / 1099511627776 = n := ⟨(x % 18446744073709551616 / 1099511627776).toNat, by omega⟩
  have h2 : n < 2 ^ 64 := by omega
  rw [hn, show (255 : Int) = ((255 : Nat) : Int) from rfl, bits_and_u64_nat n 255 (by omega) (by omega)]
  have := Nat.and_le_right (n := n) (m := 255)
  omega

theorem L_next {l : List Int} (hl : ∀ x ∈ l, 0 ≤ x ∧ x ≤ 255) {a : Int} (ha : 0 ≤ a ∧ a ≤ 4611686018427387904) (z : Int) :
    ∃ x y, spec_l00Src_next.f l a z = some (x, a + 1, y) ∧ 0 ≤ x ∧ x ≤ 255 := by
  unfold spec_l00Src_next.f
  have hb := L_rdByte hl a
  rw [L_w (x := a + 1) (by omega), L_w (x := rd l a) (by omega)]
  split
  · rw [if_pos ha.1]
    split
    · exact ⟨_, _, rfl, hb.1, hb.2⟩
    · have := L_and255 ((IntKind.u64.wrap ((IntKind.u64.wrap (z * 6364136223846793005)) + (IntKind.u64.wrap (rd l a)))) + 1442695040888963407)
      rw [L_w (by omega)]
      exact ⟨_, _, rfl, this.1, this.2⟩
  · split
    · exact ⟨_, _, rfl, by omega, by omega⟩
    · have := L_and255 ((IntKind.u64.wrap ((IntKind.u64.wrap (z * 6364136223846793005)))) + 1442695040888963407)
      rw [L_w (by omega)]
      exact ⟨_, _, rfl, this.1, this.2⟩

theorem L_pick {l : List Int} (hl : ∀ x ∈ l, 0 ≤ x ∧ x ≤ 255) {a : Int} (ha : 0 ≤ a ∧ a ≤ 4611686018427387000) (z n : Int) :
    ∃ x b y, spec_l00Src_pick.f l a z n = some (x, b, y) ∧ 0 ≤ x ∧ (x < n ∨ n ≤ 1 ∧ x = 0) ∧ a ≤ b ∧ b ≤ a + 2 := by
  unfold spec_l00Src_pick.f
  split
  · exact ⟨_, _, _, rfl, by omega, by omega, by omega, by omega⟩
  · rename_i hn
    obtain ⟨x, y, e, h1, h2⟩ := L_next hl (a := a) (by omega) z
    rw [e]
    simp only [Option.bind_some]
    split
    · obtain ⟨x', y', e', h1', h2'⟩ := L_next hl (a := a + 1) (by omega) y
      rw [e']
      simp only [Option.bind_some]
      rw [if_neg (by omega), L_w (x := x * 256) (by omega), L_w (x := x * 256 + x') (by omega), Int.tmod_eq_emod_of_nonneg (by omega)]
      exact ⟨_, _, _, rfl, Int.emod_nonneg _ (by omega), Or.inl (Int.emod_lt_of_pos _ (by omega)), by omega, by omega⟩
    · rw [if_neg (by omega), Int.tmod_eq_emod_of_nonneg h1]
      exact ⟨_, _, _, rfl, Int.emod_nonneg _ (by omega), Or.inl (Int.emod_lt_of_pos _ (by omega)), by omega, by omega⟩

theorem L_rdMem (m : List Int) {i : Int} (h0 : 0 ≤ i) (h : i < m.length) : rd m i ∈ m := by
  unfold rd
  have hh : i.toNat < m.length := by omega
  rw [show m.getD i.toNat 0 = m[i.toNat] by simp [List.getD, List.getElem?_eq_getElem hh]]
  exact List.getElem_mem hh

theorem L_among {l : List Int} (hl : ∀ x ∈ l, 0 ≤ x ∧ x ≤ 255) {a : Int} (ha : 0 ≤ a ∧ a ≤ 4611686018427387000) (z : Int) (m : List Int) (hm : 0 < m.length) :
    ∃ x b y, spec_l00Src_among.f l a z m = some (x, b, y) ∧ x ∈ m ∧ a ≤ b ∧ b ≤ a + 2 := by
  unfold spec_l00Src_among.f
  obtain ⟨x, b, y, e, h0, hx, h1, h2⟩ := L_pick hl ha z (m.length : Int)
  rw [e]
  simp only [Option.bind_some]
  rw [if_pos h0, if_pos (by omega)]
  exact ⟨_, _, _, rfl, L_rdMem m h0 (by omega), h1, h2⟩

theorem L_w8 {x : Int} (h : -128 ≤ x ∧ x ≤ 127) : IntKind.i8.wrap x = x := by simp [IntKind.wrap, IntKind.bits, IntKind.signed]; omega

theorem L_devDrawn {l : List Int} (hl : ∀ x ∈ l, 0 ≤ x ∧ x ≤ 255) {a : Int} (ha : 0 ≤ a ∧ a ≤ 4611686018427386000) (z : Int) :
    ∃ p k c d b y, spec_l04DeveloperDrawn.f l a z = some (p, k, c, d, b, y) ∧ D_dev p k c d ∧ p ≤ 5000 ∧ a ≤ b ∧ b ≤ a + 8 := by
  unfold spec_l04DeveloperDrawn.f
  obtain ⟨p, b, y, e, hp, h1, h2⟩ := L_among hl (a := a) (by omega) z [100, 1000, 3000, 5000] (by decide)
  rw [e]
  simp only [Option.bind_some]
  obtain ⟨k, b1, y1, e1, hk, h3, h4⟩ := L_among hl (a := b) (by omega) y [1, 20, 100, 500] (by decide)
  rw [e1]
  simp only [Option.bind_some]
  obtain ⟨c, b2, y2, e2, hc, h5, h6⟩ := L_among hl (a := b1) (by omega) y1 [18, 20, 24] (by decide)
  rw [e2]
  simp only [Option.bind_some]
  obtain ⟨d, b3, y3, e3, hd0, hd, h7, h8⟩ := L_pick hl (a := b2) (by omega) y2 4
  rw [e3]
  simp only [Option.bind_some]
  simp only [List.mem_cons, List.not_mem_nil, or_false] at hp hk hc
  rw [L_w (x := 1 + d) (by omega), L_w8 (x := 1 + d) (by omega), L_w8 (x := c) (by omega)]
  refine ⟨_, _, _, _, _, _, rfl, ?_, by omega, by omega, by omega⟩
  unfold D_dev
  omega

theorem L_one {l : List Int} (hl : ∀ x ∈ l, 0 ≤ x ∧ x ≤ 255) {a : Int} (ha : 0 ≤ a ∧ a ≤ 4611686018427387000) (z n : Int) :
    ∃ x b y, spec_l00Src_one.f l a z n = some (x, b, y) ∧ a ≤ b ∧ b ≤ a + 2 := by
  unfold spec_l00Src_one.f
  obtain ⟨x, b, y, e, _, _, h1, h2⟩ := L_pick hl ha z n
  rw [e]
  exact ⟨_, _, _, rfl, h1, h2⟩

theorem L_bathDrawn {l : List Int} (hl : ∀ x ∈ l, 0 ≤ x ∧ x ≤ 255) {n : Nat} (hn : 1 ≤ n) :
    ∃ p k c d v u g, spec_A2Bath.f n l = some (p, k, c, d, v, u, g) ∧ D_dev p k c d ∧ D_vol p v u g ∧ v ≤ 2000 ∧ p ≤ 5000 := by
  obtain ⟨n, rfl⟩ : ∃ m, n = m + 1 := ⟨n - 1, by omega⟩
  unfold spec_A2Bath.f spec_l00From.f
  simp only [Option.bind_some]
  unfold spec_l04Drawn.f
  obtain ⟨p, k, c, d, b, y, e, hD, hp, h1, h2⟩ := L_devDrawn hl (a := 0) (by omega) 0
  rw [e]
  simp only [Option.bind_some]
  obtain ⟨v, b1, y1, e1, hv, h3, h4⟩ := L_among hl (a := b) (by omega) y [1, 100, 500, 1000, 2000] (by decide)
  rw [e1]
  simp only [Option.bind_some]
  simp only [List.mem_cons, List.not_mem_nil, or_false] at hv
  have hD' := hD
  unfold D_dev at hD'
  have hm := L_mulb (x := v) (y := p) (X := 2000) (Y := 5000) (by omega) (by omega) (by omega) (by omega)
  rw [L_w (x := v * p) (by omega), Int.tdiv_eq_ediv_of_nonneg hm.1, L_w (x := v * p / 1000) (by omega), L_w (x := v * p / 1000 + 1) (by omega)]
  obtain ⟨u, b2, y2, e2, hu0, hu, h5, h6⟩ := L_pick hl (a := b1) (by omega) y1 (v * p / 1000 + 1)
  rw [e2]
  simp only [Option.bind_some]
  obtain ⟨o, b3, y3, e3, h7, h8⟩ := L_one hl (a := b2) (by omega) y2 2
  rw [e3]
  simp only [Option.bind_some]
  have hu2 : 1000 * u ≤ v * p := by omega
  have J : ∀ u' : Int, 0 ≤ u' → u' ≤ u → ∃ p' k' c' d' v' u1 g q r, (spec_l04Drawn.j0 (n + 1) l b3 y3 p k c d v u' 0) = some (p', k', c', d', v', u1, g, q, r) ∧ D_dev p' k' c' d' ∧ D_vol p' v' u1 g ∧ v' ≤ 2000 ∧ p' ≤ 5000 := by
    intro u' h0 hu'
    rw [spec_l04Drawn.j0]
    rw [L_w (x := k + 1) (by omega)]
    obtain ⟨g, b4, y4, e4, hg0, hg, h9, h10⟩ := L_pick hl (a := b3) (by omega) y3 (k + 1)
    rw [e4]
    simp only [Option.bind_some]
    obtain ⟨o', b5, y5, e5, _, _⟩ := L_one hl (a := b4) (by omega) y4 2
    rw [e5]
    simp only [Option.bind_some]
    split
    · rw [Int.tdiv_eq_ediv_of_nonneg hg0, L_w (x := g / 4) (by omega)]
      refine ⟨_, _, _, _, _, _, _, _, _, rfl, hD, ?_, by omega, by omega⟩
      unfold D_vol; omega
    · refine ⟨_, _, _, _, _, _, _, _, _, rfl, hD, ?_, by omega, by omega⟩
      unfold D_vol; omega
  split
  · rw [Int.tdiv_eq_ediv_of_nonneg hu0, L_w (x := u / 4) (by omega)]
    obtain ⟨_, _, _, _, _, _, _, _, _, e, h⟩ := J (u / 4) (by omega) (by omega)
    rw [e]
    exact ⟨_, _, _, _, _, _, _, rfl, h⟩
  · obtain ⟨_, _, _, _, _, _, _, _, _, e, h⟩ := J u (by omega) (by omega)
    rw [e]
    exact ⟨_, _, _, _, _, _, _, rfl, h⟩

theorem L_a2At {l : List Int} (hl : ∀ x ∈ l, 0 ≤ x ∧ x ≤ 255) {i n : Int} (hi : 0 ≤ i) (hn : 1 ≤ n) : ∃ x, laws_a2At.f l i n = some x ∧ 0 ≤ x ∧ x < n := by
  unfold laws_a2At.f
  by_cases h : i ≥ (l.length : Int)
  · rw [if_pos h]
    exact ⟨0, rfl, by omega, by omega⟩
  · have hb := L_rdByte hl i
    rw [if_neg h, if_neg (show ¬ n < 1 by omega), if_pos hi, if_pos (show i < (l.length : Int) by omega), if_neg (show ¬ n = 0 by omega), L_w (x := rd l i) (by omega), Int.tmod_eq_emod_of_nonneg hb.1]
    exact ⟨_, rfl, Int.emod_nonneg _ (by omega), Int.emod_lt_of_pos _ (by omega)⟩

-- L_gbSlow L_gbSheet L_gbRest L_gbFill L_gbValid L_mixWater L_bathDrawn L_a2At L_strengthRange
end Go.Proofs.Ytldhgldknefjdaa.PL
