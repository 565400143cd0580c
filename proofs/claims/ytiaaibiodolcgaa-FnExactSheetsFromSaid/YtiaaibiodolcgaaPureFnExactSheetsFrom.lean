/- The plain law of FnExactSheetsFrom: the printed function of the law answers true for all arguments within their kinds' bounds. No condition besides. -/
import Derived.Test.YtiaaibiodolcgaaQx34
namespace Go.Proofs.Ytiaaibiodolcgaa.Pure
open Go.RowKit Go.Proofs.Ytiaaibiodolcgaa.Q Go.Proofs.YtiaaibiodolcgaaW.PrintWords Go.Proofs.YtiaaibiodolcgaaW.PrintLast Go.Proofs.YtiaaibiodolcgaaW.PrintMore
set_option linter.unusedVariables false
set_option linter.unusedSimpArgs false
theorem L_rdGet {l : List Int} {i : Int} (h0 : 0 ≤ i) (h : i < l.length) : ∃ hi : i.toNat < l.length, rd l i = l[i.toNat]'hi :=
  ⟨by omega, by unfold rd; rw [List.getD_eq_getElem?_getD, List.getElem?_eq_getElem (by omega)]; rfl⟩

theorem L_w {x : Int} (h : -9223372036854775808 ≤ x ∧ x ≤ 9223372036854775807) : wrap64 x = x := by unfold wrap64; omega

theorem L_toI (l : List Int) (hn : l.length ≤ 140737488351232) (d : Nat) : ∀ (k : Nat) (out : List Int) (i : Int), out.length = l.length → 0 ≤ i → i + d = l.length → d < k → out.take i.toNat = l.take i.toNat → laws_toInt64S.l0 k l out i = some l := by
  induction d with
  | zero =>
    intro k out i ho h0 hd hk ht
    obtain ⟨k, rfl⟩ : ∃ m, k = m + 1 := ⟨k - 1, by omega⟩
    simp only [laws_toInt64S.l0]; rw [if_neg (by omega)]
    rw [List.take_of_length_le (by omega), List.take_of_length_le (by omega)] at ht
    rw [ht]
  | succ d ih =>
    intro k out i ho h0 hd hk ht
    obtain ⟨k, rfl⟩ : ∃ m, k = m + 1 := ⟨k - 1, by omega⟩
    obtain ⟨hi, e⟩ := L_rdGet (l := l) (i := i) h0 (by omega)
    simp only [laws_toInt64S.l0]; rw [if_pos (by omega), if_pos h0, if_pos (by omega), L_w (x := i + 1) (by omega)]
    refine ih k _ (i + 1) (by simpa using ho) (by omega) (by omega) (by omega) ?_
    rw [show (i + 1).toNat = i.toNat + 1 by omega, List.take_succ_eq_append_getElem (by simp; omega), List.take_succ_eq_append_getElem hi, List.getElem_set_self, List.take_set_of_le (by omega), ht, e]

theorem L_toInt64S (l : List Int) (hn : l.length ≤ 1048576) {k : Nat} (hk : l.length < k) : laws_toInt64S.f k l = some l := by
  unfold laws_toInt64S.f
  rw [if_pos (by omega), if_pos (by omega)]
  exact L_toI l (by omega) l.length k _ 0 (by simp) (by omega) (by omega) hk (by simp)


def D_dev (a b c d : Int) : Prop := 100 ≤ a ∧ a ≤ 100000 ∧ 1 ≤ b ∧ b ≤ 100000 ∧ 10 ≤ c ∧ c ≤ 40 ∧ 1 ≤ d ∧ d ≤ 10
instance (a b c d : Int) : Decidable (D_dev a b c d) := by unfold D_dev; infer_instance

def D_vol (p v u g : Int) : Prop := 1 ≤ v ∧ v ≤ 20000 ∧ 0 ≤ u ∧ u ≤ 100000000 ∧ 0 ≤ g ∧ g ≤ 100000 ∧ 1000 * u ≤ v * p
instance (p v u g : Int) : Decidable (D_vol p v u g) := by unfold D_vol; infer_instance

def D_areas (l : List Int) (t : Int) : Prop := (∀ x ∈ l, 1 ≤ x ∧ x ≤ 5000) ∧ 0 ≤ t ∧ t ≤ 36
instance (l : List Int) (t : Int) : Decidable (D_areas l t) := by unfold D_areas; infer_instance

def D_slowFrom (s : Int) : Nat → Int → Int
  | 0, i => i
  | d + 1, i => if tmv i * s < 1000000 then D_slowFrom s d (i + 1) else i

def D_slow (s : Int) : Int := D_slowFrom s 37 0

def D_strength (per keeps vol used age : Int) : Int := if age ≥ keeps then 0 else 1000 * (vol * per - 1000 * used) / (vol * per) * (keeps - age) / keeps

def D_can (p k v u g area t : Int) : Prop := D_slow (D_strength p k v u g) ≤ t ∧ D_vol p v (u + area) g
instance (p k v u g area t : Int) : Decidable (D_can p k v u g area t) := by unfold D_can; infer_instance

def D_sheets (p k v g t : Int) : List Int → Int → Int
  | [], _ => 0
  | a :: r, u => if D_can p k v u g a t then 1 + D_sheets p k v g t r (u + a) else 0

theorem L_sd {p q : Prop} [Decidable p] [Decidable q] (h : p ↔ q) : some (decide p) = some (decide q) := by rw [decide_eq_decide.mpr h]

theorem L_sf {q : Prop} [Decidable q] (h : ¬ q) : some false = some (decide q) := by rw [decide_eq_false h]

theorem L_in (a b c : Int) : spec_l00In.f a b c = some (decide (b ≤ a ∧ a ≤ c)) := by
  unfold spec_l00In.f
  split
  · exact L_sd (by omega)
  · exact L_sf (by omega)

theorem L_specDev {a b c d : Int} (hc : -128 ≤ c ∧ c ≤ 127) (hd : -128 ≤ d ∧ d ≤ 127) : spec_l04Developer.f a b c d = some (decide (D_dev a b c d)) := by
  unfold spec_l04Developer.f
  rw [L_w (x := c) (by omega), L_w (x := d) (by omega)]
  simp only [L_in, Option.bind_some, decide_eq_true_eq]
  unfold D_dev
  repeat' split
  all_goals first | exact L_sd (by omega) | exact L_sf (by omega)

theorem L_mulb {x y X Y : Int} (h : 0 ≤ x) (hx : x ≤ X) (k : 0 ≤ y) (ky : y ≤ Y) : 0 ≤ x * y ∧ x * y ≤ X * Y :=
  ⟨Int.mul_nonneg h k, Int.mul_le_mul hx ky k (Int.le_trans h hx)⟩

theorem L_specOk {a b c d v u g : Int} (hc : -128 ≤ c ∧ c ≤ 127) (hd : -128 ≤ d ∧ d ≤ 127) : spec_l04Ok.f a b c d v u g = some (decide (D_dev a b c d ∧ D_vol a v u g)) := by
  unfold spec_l04Ok.f
  rw [L_specDev hc hd]
  simp only [L_in, Option.bind_some, decide_eq_true_eq]
  by_cases hD : D_dev a b c d
  · have hDD := hD
    unfold D_dev at hDD
    rw [if_pos hD]
    by_cases h1 : 1 ≤ v ∧ v ≤ 20000
    · by_cases h2 : 0 ≤ u ∧ u ≤ 100000000
      · by_cases h3 : 0 ≤ g ∧ g ≤ 100000
        · rw [if_pos h1, if_pos h2, if_pos h3]
          have := L_mulb (x := v) (y := a) (X := 20000) (Y := 100000) (by omega) (by omega) (by omega) (by omega)
          rw [L_w (x := 1000 * u) (by omega), L_w (x := v * a) (by omega)]
          refine L_sd ?_
          unfold D_vol
          constructor
          · intro h; exact ⟨hD, by omega⟩
          · intro h; omega
        · rw [if_pos h1, if_pos h2, if_neg h3]; refine L_sf ?_; unfold D_vol; omega
      · rw [if_pos h1, if_neg h2]; refine L_sf ?_; unfold D_vol; omega
    · rw [if_neg h1]; refine L_sf ?_; unfold D_vol; omega
  · rw [if_neg hD]; exact L_sf (fun h => hD h.1)

theorem L_areasLoop (l : List Int) (hn : l.length ≤ 140737488351232) (d : Nat) : ∀ (k : Nat) (b : Bool) (i : Int), 0 ≤ i → i + d = l.length → d < k →
    spec_l04Areas.l0 k l b i = some (if b = true ∧ ∀ x ∈ l.drop i.toNat, 1 ≤ x ∧ x ≤ 5000 then 0 else 2) := by
  induction d with
  | zero =>
    intro k b i h0 hd hk
    obtain ⟨k, rfl⟩ : ∃ m, k = m + 1 := ⟨k - 1, by omega⟩
    simp only [spec_l04Areas.l0]
    rw [if_neg (by omega), List.drop_eq_nil_of_le (by omega)]
    cases b <;> simp
  | succ d ih =>
    intro k b i h0 hd hk
    obtain ⟨k, rfl⟩ : ∃ m, k = m + 1 := ⟨k - 1, by omega⟩
    obtain ⟨hi, e⟩ := L_rdGet (l := l) (i := i) h0 (by omega)
    simp only [spec_l04Areas.l0]
    rw [if_pos (by omega)]
    cases b with
    | false => simp
    | true =>
      simp only [if_true]
      rw [if_pos h0, L_in]
      simp only [Option.bind_some]
      rw [L_w (x := i + 1) (by omega), ih k _ (i + 1) (by omega) (by omega) (by omega), show (i + 1).toNat = i.toNat + 1 by omega, List.drop_eq_getElem_cons hi, ← e]
      by_cases h : 1 ≤ rd l i ∧ rd l i ≤ 5000
      · simp [h]
      · simp [h]

theorem L_specAreas {p k c d v u g t : Int} (hc : -128 ≤ c ∧ c ≤ 127) (hd : -128 ≤ d ∧ d ≤ 127) (l : List Int) (hn : l.length ≤ 1048576) {n : Nat} (hk : l.length < n) :
    spec_l04Areas.f n p k c d v u g l t = some (if D_dev p k c d ∧ D_vol p v u g then (if (l.length : Int) > 60 then 3 else (if D_areas l t then 0 else 2)) else 1) := by
  unfold spec_l04Areas.f
  rw [L_specOk hc hd, L_in]
  simp only [Option.bind_some, decide_eq_true_eq]
  rw [L_areasLoop l (by omega) l.length n _ 0 (by omega) (by omega) hk]
  by_cases h : D_dev p k c d ∧ D_vol p v u g
  · rw [if_pos h, if_pos h]
    by_cases h1 : (l.length : Int) > 60
    · rw [if_pos h1, if_pos h1]
    · rw [if_neg h1, if_neg h1]
      simp only [decide_eq_true_eq, Int.toNat_zero, List.drop_zero]
      by_cases h2 : D_areas l t
      · rw [if_pos h2, if_pos ⟨h2.2, h2.1⟩]
      · rw [if_neg h2, if_neg (fun x => h2 ⟨x.2, x.1⟩)]
  · rw [if_neg h, if_neg h]

theorem L_within (a b c : Int) : impl_within.f a b c = some (decide (b ≤ a ∧ a ≤ c)) := by
  unfold impl_within.f
  split
  · exact L_sd (by omega)
  · exact L_sf (by omega)

theorem L_implDev {a b c d : Int} (hc : -128 ≤ c ∧ c ≤ 127) (hd : -128 ≤ d ∧ d ≤ 127) : impl_ValidDeveloper.f a b c d = some (decide (D_dev a b c d)) := by
  unfold impl_ValidDeveloper.f
  rw [L_w (x := c) (by omega), L_w (x := d) (by omega)]
  simp only [L_within, Option.bind_some, decide_eq_true_eq]
  unfold D_dev
  repeat' split
  all_goals first | exact L_sd (by omega) | exact L_sf (by omega)

theorem L_isVolume (v : Int) : impl_isVolume.f v = some (decide (1 ≤ v ∧ v ≤ 20000)) := by
  unfold impl_isVolume.f; rw [L_within]; rfl

theorem L_isBath {a b c d v u g : Int} (hD : D_dev a b c d) : impl_isBath.f a b c d v u g = some (decide (D_vol a v u g)) := by
  unfold impl_isBath.f
  simp only [L_isVolume, L_within, Option.bind_some, decide_eq_true_eq]
  have hDD := hD
  unfold D_dev at hDD
  by_cases h1 : 1 ≤ v ∧ v ≤ 20000
  · by_cases h2 : 0 ≤ u ∧ u ≤ 100000000
    · by_cases h3 : 0 ≤ g ∧ g ≤ 100000
      · rw [if_pos h1, if_pos h2, if_pos h3]
        have := L_mulb (x := v) (y := a) (X := 20000) (Y := 100000) (by omega) (by omega) (by omega) (by omega)
        rw [L_w (x := 1000 * u) (by omega), L_w (x := v * a) (by omega)]
        refine L_sd ?_
        unfold D_vol
        constructor
        · intro h; omega
        · intro h; omega
      · rw [if_pos h1, if_pos h2, if_neg h3]; refine L_sf ?_; unfold D_vol; omega
    · rw [if_pos h1, if_neg h2]; refine L_sf ?_; unfold D_vol; omega
  · rw [if_neg h1]; refine L_sf ?_; unfold D_vol; omega

theorem L_implBath {a b c d v u g : Int} (hc : -128 ≤ c ∧ c ≤ 127) (hd : -128 ≤ d ∧ d ≤ 127) : impl_ValidBath.f a b c d v u g = some (decide (D_dev a b c d ∧ D_vol a v u g)) := by
  unfold impl_ValidBath.f
  rw [L_implDev hc hd]
  simp only [Option.bind_some, decide_eq_true_eq]
  by_cases hD : D_dev a b c d
  · rw [if_pos hD, L_isBath hD]
    exact L_sd (by simp [hD])
  · rw [if_neg hD]; exact L_sf (fun h => hD h.1)

theorem L_idxAnyOn {α : Type} (q : α → Option Bool) (p : α → Bool) : ∀ (l : List α) (i : Int), (∀ x ∈ l, q x = some (p x)) → 0 ≤ i → ∃ r, D_idx q l i = some r ∧ (l.any p = false → r = -1) ∧ (l.any p = true → 0 ≤ r)
  | [], i, _, hi => ⟨-1, rfl, fun _ => rfl, fun h => by simp at h⟩
  | x :: t, i, h, hi => by
    simp only [D_idx, h x (by simp), Option.bind_some]
    by_cases hx : p x = true
    · rw [if_pos hx]
      exact ⟨i, rfl, fun h => by simp [hx] at h, fun _ => hi⟩
    · rw [if_neg hx]
      obtain ⟨r, h1, h2, h3⟩ := L_idxAnyOn q p t (i + 1) (fun y hy => h y (by simp [hy])) (by omega)
      refine ⟨r, h1, fun h => h2 (by simpa [hx] using h), fun h => h3 (by simpa [hx] using h)⟩

theorem L_isArea (a : Int) : impl_isArea.f a = some (decide (1 ≤ a ∧ a ≤ 5000)) := by unfold impl_isArea.f; rw [L_within]; rfl

theorem L_anyIff {α : Type} (P : α → Prop) [DecidablePred P] (l : List α) (r : Int) (h2 : l.any (fun x => !decide (P x)) = false → r = -1) (h3 : l.any (fun x => !decide (P x)) = true → 0 ≤ r) [Decidable (∀ x ∈ l, P x)] :
    decide (0 ≤ r) = !decide (∀ x ∈ l, P x) := by
  by_cases h : ∀ x ∈ l, P x
  · have e : l.any (fun x => !decide (P x)) = false := by rw [List.any_eq_false]; intro x hx; simp [h x hx]
    rw [h2 e, decide_eq_true h]
    rfl
  · have e : l.any (fun x => !decide (P x)) = true := by
      rw [List.any_eq_true]
      obtain ⟨x, hx⟩ := Classical.not_forall.1 h
      obtain ⟨hx, hh⟩ := Classical.not_imp.1 hx
      exact ⟨x, hx, by simp only [Bool.not_eq_true', decide_eq_false_iff_not]; exact hh⟩
    rw [decide_eq_false h, decide_eq_true (h3 e)]
    rfl


theorem L_anyArea (l : List Int) : slices_ContainsFunc_int64_int64.f l 119 = some (!decide (∀ x ∈ l, 1 ≤ x ∧ x ≤ 5000)) := by
  unfold slices_ContainsFunc_int64_int64.f slices_IndexFunc_int64_int64.f
  first
    | rw [if_pos rfl]
    | rw [if_neg (by decide), if_pos rfl]
  obtain ⟨r, h1, h2, h3⟩ := L_idxAnyOn impl_areasCode_1.f (fun x => !decide (1 ≤ x ∧ x ≤ 5000)) l 0 (fun x _ => by unfold impl_areasCode_1.f; rw [L_isArea]; rfl) (by omega)
  rw [h1]
  simp only [Option.bind_some]
  rw [L_anyIff (fun x : Int => 1 ≤ x ∧ x ≤ 5000) l r h2 h3]

theorem L_areThirds (a : Int) : impl_areThirds.f a = some (decide (0 ≤ a ∧ a ≤ 36)) := by
  unfold impl_areThirds.f; rw [L_within]; rfl

theorem L_implAreas {p k c d v u g t : Int} (hc : -128 ≤ c ∧ c ≤ 127) (hd : -128 ≤ d ∧ d ≤ 127) (l : List Int) :
    impl_areasCode.f p k c d v u g l t = some (if D_dev p k c d ∧ D_vol p v u g then (if (l.length : Int) > 60 then 3 else (if D_areas l t then 0 else 2)) else 1) := by
  unfold impl_areasCode.f
  rw [L_implBath hc hd, L_anyArea, L_areThirds]
  simp only [Option.bind_some, decide_eq_true_eq]
  by_cases h : D_dev p k c d ∧ D_vol p v u g
  · rw [if_pos h, if_pos h]
    by_cases h1 : (l.length : Int) > 60
    · rw [if_pos h1, if_pos h1]
    · rw [if_neg h1, if_neg h1]
      by_cases h2 : ∀ x ∈ l, 1 ≤ x ∧ x ≤ 5000
      · by_cases h3 : 0 ≤ t ∧ t ≤ 36
        · rw [decide_eq_true h2]; simp only [Bool.not_true, Bool.false_eq_true, if_false]; rw [if_pos h3, if_pos (show D_areas l t from ⟨h2, h3⟩)]
        · rw [decide_eq_true h2]; simp only [Bool.not_true, Bool.false_eq_true, if_false]; rw [if_neg h3, if_neg (fun x : D_areas l t => h3 x.2)]
      · rw [decide_eq_false h2]; simp only [Bool.not_false, if_true]; rw [if_neg (fun x : D_areas l t => h2 x.1)]
  · rw [if_neg h, if_neg h]

theorem L_quot {a b q : Int} (ha : 0 ≤ a) (hb : 0 < b) (h : a ≤ q * b) : 0 ≤ a / b ∧ a / b ≤ q := by
  refine ⟨Int.ediv_nonneg ha (by omega), ?_⟩
  have := Int.ediv_le_ediv hb h
  rwa [Int.mul_ediv_cancel _ (by omega)] at this

theorem L_strengthParts {p k v u g : Int} {a b c d : Int} (hD : D_dev p k c d) (hV : D_vol p v u g) (hg : g < k) :
    (0 < v * p ∧ v * p ≤ 2000000000) ∧ (0 ≤ 1000 * (v * p - 1000 * u) / (v * p) ∧ 1000 * (v * p - 1000 * u) / (v * p) ≤ 1000) ∧
    (0 ≤ 1000 * (v * p - 1000 * u) / (v * p) * (k - g) ∧ 1000 * (v * p - 1000 * u) / (v * p) * (k - g) ≤ 1000 * k) := by
  unfold D_dev at hD
  unfold D_vol at hV
  have h1 := L_mulb (x := v) (y := p) (X := 20000) (Y := 100000) (by omega) (by omega) (by omega) (by omega)
  have h2 : 0 < v * p := Int.mul_pos (by omega) (by omega)
  have h3 := L_quot (a := 1000 * (v * p - 1000 * u)) (b := v * p) (q := 1000) (by omega) h2 (by omega)
  have h4 := L_mulb (x := 1000 * (v * p - 1000 * u) / (v * p)) (y := k - g) (X := 1000) (Y := k) h3.1 h3.2 (by omega) (by omega)
  exact ⟨⟨h2, by omega⟩, h3, h4⟩

theorem L_strengthRange {p k v u g c d : Int} (hD : D_dev p k c d) (hV : D_vol p v u g) : 0 ≤ D_strength p k v u g ∧ D_strength p k v u g ≤ 1000 := by
  unfold D_strength
  split
  · omega
  · rename_i hg
    have hh := L_strengthParts (a := 0) (b := 0) hD hV (by omega)
    unfold D_dev at hD
    exact L_quot hh.2.2.1 (by omega) hh.2.2.2

theorem L_slowFrom (s : Int) (d : Nat) : ∀ i : Int, 0 ≤ i → i + d = 37 → i ≤ D_slowFrom s d i ∧ D_slowFrom s d i ≤ 37 ∧ (∀ j, i ≤ j → j < D_slowFrom s d i → tmv j * s < 1000000) ∧ (D_slowFrom s d i ≤ 36 → 1000000 ≤ tmv (D_slowFrom s d i) * s) := by
  induction d with
  | zero => intro i h0 hd; unfold D_slowFrom; exact ⟨by omega, by omega, fun j h1 h2 => by omega, fun h => by omega⟩
  | succ d ih =>
    intro i h0 hd
    unfold D_slowFrom
    split
    · rename_i hlt
      obtain ⟨h1, h2, h3, h4⟩ := ih (i + 1) (by omega) (by omega)
      refine ⟨by omega, h2, fun j hj hj2 => ?_, h4⟩
      by_cases e : j = i
      · rw [e]; exact hlt
      · exact h3 j (by omega) hj2
    · rename_i hge
      exact ⟨by omega, by omega, fun j h1 h2 => by omega, fun _ => by omega⟩

theorem L_slowRange (s : Int) : 0 ≤ D_slow s ∧ D_slow s ≤ 37 := by
  have := L_slowFrom s 37 0 (by omega) (by omega)
  exact ⟨this.1, this.2.1⟩

theorem L_specStrength {p k v u g c d : Int} (hD : D_dev p k c d) (hV : D_vol p v u g) : spec_l04Strength.f p k c d v u g = some (D_strength p k v u g) := by
  unfold spec_l04Strength.f D_strength
  by_cases hg : g ≥ k
  · rw [if_pos hg, if_pos hg]
  · rw [if_neg hg, if_neg hg]
    obtain ⟨h1, h2, h3⟩ := L_strengthParts (a := 0) (b := 0) hD hV (by omega)
    unfold D_dev at hD
    unfold D_vol at hV
    have h4 := L_quot h3.1 (show 0 < k by omega) h3.2
    rw [L_w (x := v * p) (by omega), if_neg (by omega), if_neg (by omega), L_w (x := 1000 * u) (by omega), L_w (x := v * p - 1000 * u) (by omega), L_w (x := 1000 * (v * p - 1000 * u)) (by omega),
      Int.tdiv_eq_ediv_of_nonneg (a := 1000 * (v * p - 1000 * u)) (by omega), L_w (x := 1000 * (v * p - 1000 * u) / (v * p)) (by omega), L_w (x := k - g) (by omega),
      L_w (x := 1000 * (v * p - 1000 * u) / (v * p) * (k - g)) (by omega), Int.tdiv_eq_ediv_of_nonneg h3.1, L_w (by omega)]

theorem L_specTimeAll : ∀ n : Nat, n < 37 → spec_l01Time.f n = some (tmv n) := by decide +kernel

theorem L_specTime {k : Int} (h : 0 ≤ k ∧ k ≤ 36) : spec_l01Time.f k = some (tmv k) := by
  obtain ⟨n, rfl⟩ : ∃ n : Nat, k = n := ⟨k.toNat, by omega⟩
  exact L_specTimeAll n (by omega)

theorem L_tmvAll : ∀ n : Nat, n < 37 → 1000 ≤ tmv n ∧ tmv n ≤ 4096000 := by decide

theorem L_tmv {k : Int} (h : 0 ≤ k ∧ k ≤ 36) : 1000 ≤ tmv k ∧ tmv k ≤ 4096000 := by
  obtain ⟨n, rfl⟩ : ∃ n : Nat, k = n := ⟨k.toNat, by omega⟩
  exact L_tmvAll n (by omega)

theorem L_tms {k s : Int} (h : 0 ≤ k ∧ k ≤ 36) (hs : 0 ≤ s ∧ s ≤ 1000) : wrap64 (tmv k * s) = tmv k * s := by
  have h1 := L_tmv h
  have h2 := L_mulb (x := tmv k) (y := s) (X := 4096000) (Y := 1000) (by omega) (by omega) hs.1 hs.2
  exact L_w (by omega)

theorem L_specSlowFrom {s : Int} (hs : 0 ≤ s ∧ s ≤ 1000) (d : Nat) : ∀ (k : Nat) (i : Int), 0 ≤ i → i + d = 37 → d < k → spec_l04Slower.l0 k s i = some (if D_slowFrom s d i ≤ 36 then D_slowFrom s d i else -1) := by
  induction d with
  | zero =>
    intro k i h0 hd hk
    obtain ⟨k, rfl⟩ : ∃ m, k = m + 1 := ⟨k - 1, by omega⟩
    have e : D_slowFrom s 0 i = i := rfl
    simp only [spec_l04Slower.l0]
    rw [if_neg (by omega), e, if_neg (by omega)]
  | succ d ih =>
    intro k i h0 hd hk
    obtain ⟨k, rfl⟩ : ∃ m, k = m + 1 := ⟨k - 1, by omega⟩
    simp only [spec_l04Slower.l0]
    rw [if_pos (by omega), L_specTime (by omega)]
    simp only [Option.bind_some]
    rw [L_tms (by omega) hs]
    by_cases h : tmv i * s < 1000000
    · have e : D_slowFrom s (d + 1) i = D_slowFrom s d (i + 1) := by simp only [D_slowFrom]; rw [if_pos h]
      rw [if_neg (by omega), L_w (x := i + 1) (by omega), e]
      exact ih k (i + 1) (by omega) (by omega) (by omega)
    · have e : D_slowFrom s (d + 1) i = i := by simp only [D_slowFrom]; rw [if_neg h]
      rw [if_pos (by omega), e, if_pos (by omega)]

theorem L_specSlower {s : Int} (hs : 0 ≤ s ∧ s ≤ 1000) {k : Nat} (hk : 38 ≤ k) : spec_l04Slower.f k s = some (if D_slow s ≤ 36 then D_slow s else -1) :=
  L_specSlowFrom hs 37 k 0 (by omega) (by omega) (by omega)

theorem L_specSheet {p k c d v u g a : Int} (hc : -128 ≤ c ∧ c ≤ 127) (hd : -128 ≤ d ∧ d ≤ 127) (hD : D_dev p k c d) (hV : D_vol p v u g) (ha : 1 ≤ a ∧ a ≤ 5000) {n : Nat} (hn : 38 ≤ n) :
    spec_l04Sheet.f n p k c d v u g a = some (if D_slow (D_strength p k v u g) ≤ 36 then (v, u + a, g, decide (D_vol p v (u + a) g)) else (0, 0, 0, false)) := by
  unfold spec_l04Sheet.f
  have hs := L_strengthRange hD hV
  have hr := L_slowRange (D_strength p k v u g)
  have hv := hV
  unfold D_vol at hv
  rw [L_specStrength hD hV]
  simp only [Option.bind_some]
  rw [L_specSlower hs hn]
  simp only [Option.bind_some]
  by_cases h : D_slow (D_strength p k v u g) ≤ 36
  · rw [if_pos h, if_neg (by omega), L_w (x := u + a) (by omega), L_specOk hc hd, if_pos h]
    simp [hD]
  · rw [if_neg h, if_pos (by omega), if_neg h]

theorem L_specReady {p k c d v u g a t : Int} (hc : -128 ≤ c ∧ c ≤ 127) (hd : -128 ≤ d ∧ d ≤ 127) (hD : D_dev p k c d) (hV : D_vol p v u g) (ha : 1 ≤ a ∧ a ≤ 5000) (ht : 0 ≤ t ∧ t ≤ 36) {n : Nat} (hn : 38 ≤ n) :
    ∃ x y z : Int, spec_l04Ready.f n p k c d v u g a t = some (x, y, z, decide (D_can p k v u g a t)) ∧ (D_can p k v u g a t → x = v ∧ y = u + a ∧ z = g) := by
  unfold spec_l04Ready.f
  have hs := L_strengthRange hD hV
  have hr := L_slowRange (D_strength p k v u g)
  rw [L_specStrength hD hV]
  simp only [Option.bind_some]
  rw [L_specSlower hs hn, L_specSheet hc hd hD hV ha hn]
  simp only [Option.bind_some]
  by_cases h : D_slow (D_strength p k v u g) ≤ 36
  · rw [if_pos h, if_pos h]
    by_cases h2 : D_slow (D_strength p k v u g) > t
    · rw [if_pos h2]
      exact ⟨0, 0, 0, by rw [decide_eq_false (show ¬ D_can p k v u g a t by unfold D_can; omega)], fun x => by unfold D_can at x; omega⟩
    · rw [if_neg h2]
      refine ⟨v, u + a, g, ?_, fun _ => ⟨rfl, rfl, rfl⟩⟩
      simp only [Option.bind_some]
      congr 4
      rw [decide_eq_decide]
      unfold D_can
      exact ⟨fun x => ⟨by omega, x⟩, fun x => x.2⟩
  · rw [if_neg h, if_neg h, if_neg (by omega)]
    exact ⟨0, 0, 0, by rw [decide_eq_false (show ¬ D_can p k v u g a t by unfold D_can; omega)], fun x => by unfold D_can at x; omega⟩

theorem L_implStrength {p k v u g c d : Int} (hD : D_dev p k c d) (hV : D_vol p v u g) : impl_Bath_strength.f v u g p k c d = some (D_strength p k v u g) := by
  unfold impl_Bath_strength.f D_strength
  have hDD := hD
  have hVV := hV
  unfold D_dev at hDD
  unfold D_vol at hVV
  have h1 := L_mulb (x := v) (y := p) (X := 20000) (Y := 100000) (by omega) (by omega) (by omega) (by omega)
  have h0 : 0 < v * p := Int.mul_pos (by omega) (by omega)
  have h3 := L_quot (a := 1000 * (v * p - 1000 * u)) (b := v * p) (q := 1000) (by omega) h0 (by omega)
  rw [L_w (x := v * p) (by omega), if_neg (by omega), if_neg (by omega), L_w (x := 1000 * u) (by omega), L_w (x := v * p - 1000 * u) (by omega), L_w (x := 1000 * (v * p - 1000 * u)) (by omega),
      Int.tdiv_eq_ediv_of_nonneg (a := 1000 * (v * p - 1000 * u)) (by omega), L_w (x := 1000 * (v * p - 1000 * u) / (v * p)) (by omega), L_w (x := k - g) (by omega)]
  by_cases hg : g ≥ k
  · rw [if_pos hg, show mx 0 (k - g) = 0 by unfold mx; omega, Int.mul_zero]
    simp [wrap64]
  · obtain ⟨_, h2, h3⟩ := L_strengthParts (a := 0) (b := 0) hD hV (by omega)
    have h4 := L_quot h3.1 (show 0 < k by omega) h3.2
    rw [if_neg hg, show mx 0 (k - g) = k - g by unfold mx; omega, L_w (x := 1000 * (v * p - 1000 * u) / (v * p) * (k - g)) (by omega), Int.tdiv_eq_ediv_of_nonneg h3.1, L_w (by omega)]

theorem L_timeOf {k : Int} (h : 0 ≤ k ∧ k ≤ 36) : impl_timeOf.f k = some (tmv k) := by
  unfold impl_timeOf.f; rw [if_pos h.1, if_pos h.2]

theorem L_tmvMonoAll : ∀ i : Nat, i < 37 → ∀ j : Nat, j < 37 → i ≤ j → tmv i ≤ tmv j := by decide +kernel

theorem L_tmvMono {i j : Int} (h0 : 0 ≤ i) (h : i ≤ j) (h1 : j ≤ 36) : tmv i ≤ tmv j := by
  obtain ⟨n, rfl⟩ : ∃ n : Nat, i = n := ⟨i.toNat, by omega⟩
  obtain ⟨m, rfl⟩ : ∃ m : Nat, j = m := ⟨j.toNat, by omega⟩
  exact L_tmvMonoAll n (by omega) m (by omega) (by omega)

theorem L_slowIff {s t : Int} (hs : 0 ≤ s) (ht : 0 ≤ t ∧ t ≤ 36) : 1000000 ≤ tmv t * s ↔ D_slow s ≤ t := by
  obtain ⟨_, _, h3, h4⟩ := L_slowFrom s 37 0 (by omega) (by omega)
  have hr := L_slowRange s
  constructor
  · intro h
    rcases Int.lt_or_le t (D_slow s) with hlt | hle
    · have := h3 t ht.1 hlt
      omega
    · exact hle
  · intro h
    have h5 := h4 (by unfold D_slow at h; omega)
    have h6 := L_tmvMono (i := D_slow s) (j := t) hr.1 h ht.2
    have h7 : tmv (D_slow s) * s ≤ tmv t * s := Int.mul_le_mul_of_nonneg_right h6 hs
    unfold D_slow at h7
    omega

theorem L_implCan {p k c d v u g a t : Int} (hD : D_dev p k c d) (hV : D_vol p v u g) (ha : 1 ≤ a ∧ a ≤ 5000) (ht : 0 ≤ t ∧ t ≤ 36) :
    impl_Bath_canDevelop.f v u g p k c d a t = some (decide (D_can p k v u g a t)) := by
  unfold impl_Bath_canDevelop.f
  have hs := L_strengthRange hD hV
  have hv := hV
  unfold D_vol at hv
  rw [L_implStrength hD hV]
  simp only [Option.bind_some]
  rw [L_timeOf ht]
  simp only [Option.bind_some]
  rw [L_tms ht hs, L_w (x := u + a) (by omega), L_isBath hD]
  have hi := L_slowIff hs.1 ht
  by_cases h : 1000000 ≤ tmv t * D_strength p k v u g
  · rw [if_pos h]
    simp only [Option.bind_some]
    refine L_sd ?_
    unfold D_can
    exact ⟨fun x => ⟨hi.mp h, x⟩, fun x => x.2⟩
  · rw [if_neg h]
    refine L_sf ?_
    unfold D_can
    exact fun x => h (hi.mpr x.1)

theorem L_sheetsLoops {p k c d v g t : Int} (hc : -128 ≤ c ∧ c ≤ 127) (hd : -128 ≤ d ∧ d ≤ 127) (hD : D_dev p k c d) (ht : 0 ≤ t ∧ t ≤ 36) (l : List Int) (hl : ∀ x ∈ l, 1 ≤ x ∧ x ≤ 5000) (hn : l.length ≤ 1048576) (e : Nat) :
    ∀ (n n' : Nat) (u i : Int), D_vol p v u g → 0 ≤ i → i + e = l.length → e + 40 ≤ n → e + 40 ≤ n' →
    spec_SheetsFrom.l0 n l t i p k c d v u g = some (i + D_sheets p k v g t (l.drop i.toNat) u, 0) ∧ impl_SheetsFrom.l0 n' t i l (l.length : Int) i p k c d v u g = some (i + D_sheets p k v g t (l.drop i.toNat) u, 0) := by
  induction e with
  | zero =>
    intro n n' u i hV h0 hi hn hn'
    obtain ⟨n, rfl⟩ : ∃ m, n = m + 1 := ⟨n - 1, by omega⟩
    obtain ⟨n', rfl⟩ : ∃ m, n' = m + 1 := ⟨n' - 1, by omega⟩
    simp only [spec_SheetsFrom.l0, impl_SheetsFrom.l0]
    rw [if_neg (by omega), if_neg (by omega), List.drop_eq_nil_of_le (by omega)]
    simp only [D_sheets]
    exact ⟨by congr 2; omega, by congr 2; omega⟩
  | succ e ih =>
    intro n n' u i hV h0 hi hn hn'
    obtain ⟨n, rfl⟩ : ∃ m, n = m + 1 := ⟨n - 1, by omega⟩
    obtain ⟨n', rfl⟩ : ∃ m, n' = m + 1 := ⟨n' - 1, by omega⟩
    obtain ⟨hi2, e0⟩ := L_rdGet (l := l) (i := i) h0 (by omega)
    have ha := hl _ (List.getElem_mem hi2)
    rw [← e0] at ha
    obtain ⟨x, y, z, e1, e2⟩ := L_specReady hc hd hD hV ha ht (n := n) (by omega)
    have e3 := L_implCan hD hV ha ht
    have hv := hV
    unfold D_vol at hv
    simp only [spec_SheetsFrom.l0, impl_SheetsFrom.l0]
    rw [if_pos (by omega), if_pos h0, if_pos (by omega), if_pos h0, if_pos (by omega), e1, e3, List.drop_eq_getElem_cons hi2, ← e0]
    simp only [Option.bind_some, decide_eq_true_eq, D_sheets]
    by_cases h : D_can p k v u g (rd l i) t
    · obtain ⟨rfl, rfl, rfl⟩ := e2 h
      obtain ⟨a1, a2⟩ := ih n n' (u + rd l i) (i + 1) h.2 (by omega) (by omega) (by omega) (by omega)
      rw [if_pos h, if_pos h, if_pos h, L_w (x := i + 1) (by omega), L_w (x := u + rd l i) (by omega), a1, a2, show (i + 1).toNat = i.toNat + 1 by omega]
      exact ⟨by congr 2; omega, by congr 2; omega⟩
    · rw [if_neg h, if_neg h, if_neg h]
      exact ⟨by congr 2; omega, by congr 2; omega⟩

theorem L_sheetsFrom {p k c d v u g t : Int} (hc : -128 ≤ c ∧ c ≤ 127) (hd : -128 ≤ d ∧ d ≤ 127) (l : List Int) (hn : l.length ≤ 1048576) {n : Nat} (hk : l.length + 60 ≤ n) :
    ∃ r, spec_SheetsFrom.f n p k c d v u g l t = some r ∧ impl_SheetsFrom.f n p k c d v u g l t = some r ∧ (D_dev p k c d → D_vol p v u g → (l.length : Int) ≤ 60 → D_areas l t → r = (D_sheets p k v g t l u, 0)) := by
  unfold spec_SheetsFrom.f impl_SheetsFrom.f
  rw [L_specAreas hc hd l hn (by omega), L_implAreas hc hd l]
  simp only [Option.bind_some]
  by_cases h : D_dev p k c d ∧ D_vol p v u g
  · rw [if_pos h]
    by_cases h1 : (l.length : Int) > 60
    · rw [if_pos h1]; exact ⟨_, rfl, rfl, fun _ _ x => by omega⟩
    · rw [if_neg h1]
      by_cases h2 : D_areas l t
      · rw [if_pos h2]
        obtain ⟨a1, a2⟩ := L_sheetsLoops hc hd h.1 h2.2 l h2.1 hn l.length n n u 0 h.2 (by omega) (by omega) (by omega) (by omega)
        simp only [if_true]
        rw [a1, a2]
        exact ⟨_, rfl, rfl, fun _ _ _ _ => by simp⟩
      · rw [if_neg h2]; exact ⟨_, rfl, rfl, fun _ _ _ x => absurd x h2⟩
  · rw [if_neg h]; exact ⟨_, rfl, rfl, fun x y => absurd ⟨x, y⟩ h⟩


theorem L_eqI (a : List Int) (hn : a.length ≤ 140737488351232) (d : Nat) : ∀ (k : Nat) (i : Int), 0 ≤ i → i + d = a.length → d < k → laws_eqInt64S.l0 k a a i = some true := by
  induction d with
  | zero =>
    intro k i h0 hd hk
    obtain ⟨k, rfl⟩ : ∃ m, k = m + 1 := ⟨k - 1, by omega⟩
    simp only [laws_eqInt64S.l0]; rw [if_neg (by omega)]
  | succ d ih =>
    intro k i h0 hd hk
    obtain ⟨k, rfl⟩ : ∃ m, k = m + 1 := ⟨k - 1, by omega⟩
    simp only [laws_eqInt64S.l0]; rw [if_pos (by omega), if_pos h0, L_w (x := i + 1) (by omega)]
    simp only [if_true]
    rw [if_pos (by omega)]
    exact ih k (i + 1) (by omega) (by omega) (by omega)

theorem L_eqInt64S (a : List Int) (hn : a.length ≤ 140737488351232) {k : Nat} (hk : a.length < k) : laws_eqInt64S.f k a a = some true := by
  unfold laws_eqInt64S.f; rw [if_pos rfl]; exact L_eqI a hn a.length k 0 (by omega) (by omega) hk

theorem FnExactSheetsFrom : ∀ (a0_0 : Int) (a0_1 : Int) (a0_2 : Int) (a0_3 : Int) (a1_0 : Int) (a1_1 : Int) (a1_2 : Int) (l2 : List Int) (a3 : Int), -9223372036854775808 ≤ a0_0 → a0_0 ≤ 9223372036854775807 → -9223372036854775808 ≤ a0_1 → a0_1 ≤ 9223372036854775807 → -128 ≤ a0_2 → a0_2 ≤ 127 → -128 ≤ a0_3 → a0_3 ≤ 127 → -9223372036854775808 ≤ a1_0 → a1_0 ≤ 9223372036854775807 → -9223372036854775808 ≤ a1_1 → a1_1 ≤ 9223372036854775807 → -9223372036854775808 ≤ a1_2 → a1_2 ≤ 9223372036854775807 → (∀ x ∈ l2, -9223372036854775808 ≤ x ∧ x ≤ 9223372036854775807) → l2.length * 8 ≤ 140737488351232 → -9223372036854775808 ≤ a3 → a3 ≤ 9223372036854775807 → ∃ k, laws_FnExactSheetsFrom.f k a0_0 a0_1 a0_2 a0_3 a1_0 a1_1 a1_2 l2 a3 = some true := by
  intro p k c d v u g l t _ _ _ _ hc hc' hd hd' _ _ _ _ _ _ _ hl _ _
  refine ⟨l.length + 100, ?_⟩
  unfold laws_FnExactSheetsFrom.f laws_toDeveloper.f laws_toBath.f
  by_cases h : (l.length : Int) > 1048576
  · rw [if_pos h]
  · rw [if_neg h]
    simp only [Option.bind_some]
    rw [L_toInt64S l (by omega) (by omega)]
    obtain ⟨r, e1, e2, _⟩ := L_sheetsFrom (p := p) (k := k) (v := v) (u := u) (g := g) (t := t) ⟨hc, hc'⟩ ⟨hd, hd'⟩ l (by omega) (n := l.length + 100) (by omega)
    simp only [Option.bind_some]
    rw [e1, e2]
    simp only [Option.bind_some, if_true, bne_self_eq_false]
    simp only [laws_FnExactSheetsFrom.j0, Bool.false_eq_true, if_false]
    rw [L_toInt64S l (by omega) (by omega)]
    simp only [Option.bind_some]
    rw [L_eqInt64S l (by omega) (by omega)]
    simp

end Go.Proofs.Ytiaaibiodolcgaa.Pure
