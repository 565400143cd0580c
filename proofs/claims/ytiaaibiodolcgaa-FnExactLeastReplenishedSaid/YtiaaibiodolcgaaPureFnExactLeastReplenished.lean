/- The plain law of FnExactLeastReplenished: the printed function of the law answers true for all arguments within their kinds' bounds. No condition besides. -/
import Derived.Test.YtiaaibiodolcgaaQx7
namespace Go.Proofs.Ytiaaibiodolcgaa.Pure
open Go.RowKit Go.Proofs.Ytiaaibiodolcgaa.Q Go.Proofs.YtiaaibiodolcgaaW.PrintWords Go.Proofs.YtiaaibiodolcgaaW.PrintLast Go.Proofs.YtiaaibiodolcgaaW.PrintMore
set_option linter.unusedVariables false
set_option linter.unusedSimpArgs false
theorem L_rdGet {l : List Int} {i : Int} (h0 : 0 ≤ i) (h : i < l.length) : ∃ hi : i.toNat < l.length, rd l i = l[i.toNat]'hi :=
  ⟨by omega, by unfold rd; rw [List.getD_eq_getElem?_getD, List.getElem?_eq_getElem (by omega)]; rfl⟩

theorem L_w {x : Int} (h : -9223372036854775808 ≤ x ∧ x ≤ 9223372036854775807) : wrap64 x = x := by unfold wrap64; omega

theorem L_toI (l : List Int) (hn : l.length ≤ 140737488351232) (d : Nat) : ∀ (k : Nat) (out : List Int) (i : Int), out.length = l.length → 0 ≤ i → i + d = l.length → d < k → out.take i.toNat = l.take i.toNat → laws_toInt64S.l0 k l out i = some l := by
  induction d with
  | zero =>
    intro k out i ho h0 hd hk ht
    obtain ⟨k, rfl⟩ : ∃ m, k = m + 1 := ⟨k - 1, by omega⟩
    simp only [laws_toInt64S.l0]; rw [if_neg (by omega)]
    rw [List.take_of_length_le (by omega), List.take_of_length_le (by omega)] at ht
    rw [ht]
  | succ d ih =>
    intro k out i ho h0 hd hk ht
    obtain ⟨k, rfl⟩ : ∃ m, k = m + 1 := ⟨k - 1, by omega⟩
    obtain ⟨hi, e⟩ := L_rdGet (l := l) (i := i) h0 (by omega)
    simp only [laws_toInt64S.l0]; rw [if_pos (by omega), if_pos h0, if_pos (by omega), L_w (x := i + 1) (by omega)]
    refine ih k _ (i + 1) (by simpa using ho) (by omega) (by omega) (by omega) ?_
    rw [show (i + 1).toNat = i.toNat + 1 by omega, List.take_succ_eq_append_getElem (by simp; omega), List.take_succ_eq_append_getElem hi, List.getElem_set_self, List.take_set_of_le (by omega), ht, e]

theorem L_toInt64S (l : List Int) (hn : l.length ≤ 1048576) {k : Nat} (hk : l.length < k) : laws_toInt64S.f k l = some l := by
  unfold laws_toInt64S.f
  rw [if_pos (by omega), if_pos (by omega)]
  exact L_toI l (by omega) l.length k _ 0 (by simp) (by omega) (by omega) hk (by simp)


def D_dev (a b c d : Int) : Prop := 100 ≤ a ∧ a ≤ 100000 ∧ 1 ≤ b ∧ b ≤ 100000 ∧ 10 ≤ c ∧ c ≤ 40 ∧ 1 ≤ d ∧ d ≤ 10
instance (a b c d : Int) : Decidable (D_dev a b c d) := by unfold D_dev; infer_instance

def D_vol (p v u g : Int) : Prop := 1 ≤ v ∧ v ≤ 20000 ∧ 0 ≤ u ∧ u ≤ 100000000 ∧ 0 ≤ g ∧ g ≤ 100000 ∧ 1000 * u ≤ v * p
instance (p v u g : Int) : Decidable (D_vol p v u g) := by unfold D_vol; infer_instance

def D_areas (l : List Int) (t : Int) : Prop := (∀ x ∈ l, 1 ≤ x ∧ x ≤ 5000) ∧ 0 ≤ t ∧ t ≤ 36
instance (l : List Int) (t : Int) : Decidable (D_areas l t) := by unfold D_areas; infer_instance

theorem L_sd {p q : Prop} [Decidable p] [Decidable q] (h : p ↔ q) : some (decide p) = some (decide q) := by rw [decide_eq_decide.mpr h]

theorem L_sf {q : Prop} [Decidable q] (h : ¬ q) : some false = some (decide q) := by rw [decide_eq_false h]

theorem L_in (a b c : Int) : spec_l00In.f a b c = some (decide (b ≤ a ∧ a ≤ c)) := by
  unfold spec_l00In.f
  split
  · exact L_sd (by omega)
  · exact L_sf (by omega)

theorem L_specDev {a b c d : Int} (hc : -128 ≤ c ∧ c ≤ 127) (hd : -128 ≤ d ∧ d ≤ 127) : spec_l04Developer.f a b c d = some (decide (D_dev a b c d)) := by
  unfold spec_l04Developer.f
  rw [L_w (x := c) (by omega), L_w (x := d) (by omega)]
  simp only [L_in, Option.bind_some, decide_eq_true_eq]
  unfold D_dev
  repeat' split
  all_goals first | exact L_sd (by omega) | exact L_sf (by omega)

theorem L_mulb {x y X Y : Int} (h : 0 ≤ x) (hx : x ≤ X) (k : 0 ≤ y) (ky : y ≤ Y) : 0 ≤ x * y ∧ x * y ≤ X * Y :=
  ⟨Int.mul_nonneg h k, Int.mul_le_mul hx ky k (Int.le_trans h hx)⟩

theorem L_specOk {a b c d v u g : Int} (hc : -128 ≤ c ∧ c ≤ 127) (hd : -128 ≤ d ∧ d ≤ 127) : spec_l04Ok.f a b c d v u g = some (decide (D_dev a b c d ∧ D_vol a v u g)) := by
  unfold spec_l04Ok.f
  rw [L_specDev hc hd]
  simp only [L_in, Option.bind_some, decide_eq_true_eq]
  by_cases hD : D_dev a b c d
  · have hDD := hD
    unfold D_dev at hDD
    rw [if_pos hD]
    by_cases h1 : 1 ≤ v ∧ v ≤ 20000
    · by_cases h2 : 0 ≤ u ∧ u ≤ 100000000
      · by_cases h3 : 0 ≤ g ∧ g ≤ 100000
        · rw [if_pos h1, if_pos h2, if_pos h3]
          have := L_mulb (x := v) (y := a) (X := 20000) (Y := 100000) (by omega) (by omega) (by omega) (by omega)
          rw [L_w (x := 1000 * u) (by omega), L_w (x := v * a) (by omega)]
          refine L_sd ?_
          unfold D_vol
          constructor
          · intro h; exact ⟨hD, by omega⟩
          · intro h; omega
        · rw [if_pos h1, if_pos h2, if_neg h3]; refine L_sf ?_; unfold D_vol; omega
      · rw [if_pos h1, if_neg h2]; refine L_sf ?_; unfold D_vol; omega
    · rw [if_neg h1]; refine L_sf ?_; unfold D_vol; omega
  · rw [if_neg hD]; exact L_sf (fun h => hD h.1)

theorem L_areasLoop (l : List Int) (hn : l.length ≤ 140737488351232) (d : Nat) : ∀ (k : Nat) (b : Bool) (i : Int), 0 ≤ i → i + d = l.length → d < k →
    spec_l04Areas.l0 k l b i = some (if b = true ∧ ∀ x ∈ l.drop i.toNat, 1 ≤ x ∧ x ≤ 5000 then 0 else 2) := by
  induction d with
  | zero =>
    intro k b i h0 hd hk
    obtain ⟨k, rfl⟩ : ∃ m, k = m + 1 := ⟨k - 1, by omega⟩
    simp only [spec_l04Areas.l0]
    rw [if_neg (by omega), List.drop_eq_nil_of_le (by omega)]
    cases b <;> simp
  | succ d ih =>
    intro k b i h0 hd hk
    obtain ⟨k, rfl⟩ : ∃ m, k = m + 1 := ⟨k - 1, by omega⟩
    obtain ⟨hi, e⟩ := L_rdGet (l := l) (i := i) h0 (by omega)
    simp only [spec_l04Areas.l0]
    rw [if_pos (by omega)]
    cases b with
    | false => simp
    | true =>
      simp only [if_true]
      rw [if_pos h0, L_in]
      simp only [Option.bind_some]
      rw [L_w (x := i + 1) (by omega), ih k _ (i + 1) (by omega) (by omega) (by omega), show (i + 1).toNat = i.toNat + 1 by omega, List.drop_eq_getElem_cons hi, ← e]
      by_cases h : 1 ≤ rd l i ∧ rd l i ≤ 5000
      · simp [h]
      · simp [h]

theorem L_specAreas {p k c d v u g t : Int} (hc : -128 ≤ c ∧ c ≤ 127) (hd : -128 ≤ d ∧ d ≤ 127) (l : List Int) (hn : l.length ≤ 1048576) {n : Nat} (hk : l.length < n) :
    spec_l04Areas.f n p k c d v u g l t = some (if D_dev p k c d ∧ D_vol p v u g then (if (l.length : Int) > 60 then 3 else (if D_areas l t then 0 else 2)) else 1) := by
  unfold spec_l04Areas.f
  rw [L_specOk hc hd, L_in]
  simp only [Option.bind_some, decide_eq_true_eq]
  rw [L_areasLoop l (by omega) l.length n _ 0 (by omega) (by omega) hk]
  by_cases h : D_dev p k c d ∧ D_vol p v u g
  · rw [if_pos h, if_pos h]
    by_cases h1 : (l.length : Int) > 60
    · rw [if_pos h1, if_pos h1]
    · rw [if_neg h1, if_neg h1]
      simp only [decide_eq_true_eq, Int.toNat_zero, List.drop_zero]
      by_cases h2 : D_areas l t
      · rw [if_pos h2, if_pos ⟨h2.2, h2.1⟩]
      · rw [if_neg h2, if_neg (fun x => h2 ⟨x.2, x.1⟩)]
  · rw [if_neg h, if_neg h]

theorem L_within (a b c : Int) : impl_within.f a b c = some (decide (b ≤ a ∧ a ≤ c)) := by
  unfold impl_within.f
  split
  · exact L_sd (by omega)
  · exact L_sf (by omega)

theorem L_implDev {a b c d : Int} (hc : -128 ≤ c ∧ c ≤ 127) (hd : -128 ≤ d ∧ d ≤ 127) : impl_ValidDeveloper.f a b c d = some (decide (D_dev a b c d)) := by
  unfold impl_ValidDeveloper.f
  rw [L_w (x := c) (by omega), L_w (x := d) (by omega)]
  simp only [L_within, Option.bind_some, decide_eq_true_eq]
  unfold D_dev
  repeat' split
  all_goals first | exact L_sd (by omega) | exact L_sf (by omega)

theorem L_isVolume (v : Int) : impl_isVolume.f v = some (decide (1 ≤ v ∧ v ≤ 20000)) := by
  unfold impl_isVolume.f; rw [L_within]; rfl

theorem L_isBath {a b c d v u g : Int} (hD : D_dev a b c d) : impl_isBath.f a b c d v u g = some (decide (D_vol a v u g)) := by
  unfold impl_isBath.f
  simp only [L_isVolume, L_within, Option.bind_some, decide_eq_true_eq]
  have hDD := hD
  unfold D_dev at hDD
  by_cases h1 : 1 ≤ v ∧ v ≤ 20000
  · by_cases h2 : 0 ≤ u ∧ u ≤ 100000000
    · by_cases h3 : 0 ≤ g ∧ g ≤ 100000
      · rw [if_pos h1, if_pos h2, if_pos h3]
        have := L_mulb (x := v) (y := a) (X := 20000) (Y := 100000) (by omega) (by omega) (by omega) (by omega)
        rw [L_w (x := 1000 * u) (by omega), L_w (x := v * a) (by omega)]
        refine L_sd ?_
        unfold D_vol
        constructor
        · intro h; omega
        · intro h; omega
      · rw [if_pos h1, if_pos h2, if_neg h3]; refine L_sf ?_; unfold D_vol; omega
    · rw [if_pos h1, if_neg h2]; refine L_sf ?_; unfold D_vol; omega
  · rw [if_neg h1]; refine L_sf ?_; unfold D_vol; omega

theorem L_implBath {a b c d v u g : Int} (hc : -128 ≤ c ∧ c ≤ 127) (hd : -128 ≤ d ∧ d ≤ 127) : impl_ValidBath.f a b c d v u g = some (decide (D_dev a b c d ∧ D_vol a v u g)) := by
  unfold impl_ValidBath.f
  rw [L_implDev hc hd]
  simp only [Option.bind_some, decide_eq_true_eq]
  by_cases hD : D_dev a b c d
  · rw [if_pos hD, L_isBath hD]
    exact L_sd (by simp [hD])
  · rw [if_neg hD]; exact L_sf (fun h => hD h.1)

theorem L_idxAnyOn {α : Type} (q : α → Option Bool) (p : α → Bool) : ∀ (l : List α) (i : Int), (∀ x ∈ l, q x = some (p x)) → 0 ≤ i → ∃ r, D_idx q l i = some r ∧ (l.any p = false → r = -1) ∧ (l.any p = true → 0 ≤ r)
  | [], i, _, hi => ⟨-1, rfl, fun _ => rfl, fun h => by simp at h⟩
  | x :: t, i, h, hi => by
    simp only [D_idx, h x (by simp), Option.bind_some]
    by_cases hx : p x = true
    · rw [if_pos hx]
      exact ⟨i, rfl, fun h => by simp [hx] at h, fun _ => hi⟩
    · rw [if_neg hx]
      obtain ⟨r, h1, h2, h3⟩ := L_idxAnyOn q p t (i + 1) (fun y hy => h y (by simp [hy])) (by omega)
      refine ⟨r, h1, fun h => h2 (by simpa [hx] using h), fun h => h3 (by simpa [hx] using h)⟩

theorem L_isArea (a : Int) : impl_isArea.f a = some (decide (1 ≤ a ∧ a ≤ 5000)) := by unfold impl_isArea.f; rw [L_within]; rfl

theorem L_anyIff {α : Type} (P : α → Prop) [DecidablePred P] (l : List α) (r : Int) (h2 : l.any (fun x => !decide (P x)) = false → r = -1) (h3 : l.any (fun x => !decide (P x)) = true → 0 ≤ r) [Decidable (∀ x ∈ l, P x)] :
    decide (0 ≤ r) = !decide (∀ x ∈ l, P x) := by
  by_cases h : ∀ x ∈ l, P x
  · have e : l.any (fun x => !decide (P x)) = false := by rw [List.any_eq_false]; intro x hx; simp [h x hx]
    rw [h2 e, decide_eq_true h]
    rfl
  · have e : l.any (fun x => !decide (P x)) = true := by
      rw [List.any_eq_true]
      obtain ⟨x, hx⟩ := Classical.not_forall.1 h
      obtain ⟨hx, hh⟩ := Classical.not_imp.1 hx
      exact ⟨x, hx, by simp only [Bool.not_eq_true', decide_eq_false_iff_not]; exact hh⟩
    rw [decide_eq_false h, decide_eq_true (h3 e)]
    rfl


theorem L_anyArea (l : List Int) : slices_ContainsFunc_int64_int64.f l 119 = some (!decide (∀ x ∈ l, 1 ≤ x ∧ x ≤ 5000)) := by
  unfold slices_ContainsFunc_int64_int64.f slices_IndexFunc_int64_int64.f
  first
    | rw [if_pos rfl]
    | rw [if_neg (by decide), if_pos rfl]
  obtain ⟨r, h1, h2, h3⟩ := L_idxAnyOn impl_areasCode_1.f (fun x => !decide (1 ≤ x ∧ x ≤ 5000)) l 0 (fun x _ => by unfold impl_areasCode_1.f; rw [L_isArea]; rfl) (by omega)
  rw [h1]
  simp only [Option.bind_some]
  rw [L_anyIff (fun x : Int => 1 ≤ x ∧ x ≤ 5000) l r h2 h3]

theorem L_areThirds (a : Int) : impl_areThirds.f a = some (decide (0 ≤ a ∧ a ≤ 36)) := by
  unfold impl_areThirds.f; rw [L_within]; rfl

theorem L_implAreas {p k c d v u g t : Int} (hc : -128 ≤ c ∧ c ≤ 127) (hd : -128 ≤ d ∧ d ≤ 127) (l : List Int) :
    impl_areasCode.f p k c d v u g l t = some (if D_dev p k c d ∧ D_vol p v u g then (if (l.length : Int) > 60 then 3 else (if D_areas l t then 0 else 2)) else 1) := by
  unfold impl_areasCode.f
  rw [L_implBath hc hd, L_anyArea, L_areThirds]
  simp only [Option.bind_some, decide_eq_true_eq]
  by_cases h : D_dev p k c d ∧ D_vol p v u g
  · rw [if_pos h, if_pos h]
    by_cases h1 : (l.length : Int) > 60
    · rw [if_pos h1, if_pos h1]
    · rw [if_neg h1, if_neg h1]
      by_cases h2 : ∀ x ∈ l, 1 ≤ x ∧ x ≤ 5000
      · by_cases h3 : 0 ≤ t ∧ t ≤ 36
        · rw [decide_eq_true h2]; simp only [Bool.not_true, Bool.false_eq_true, if_false]; rw [if_pos h3, if_pos (show D_areas l t from ⟨h2, h3⟩)]
        · rw [decide_eq_true h2]; simp only [Bool.not_true, Bool.false_eq_true, if_false]; rw [if_neg h3, if_neg (fun x : D_areas l t => h3 x.2)]
      · rw [decide_eq_false h2]; simp only [Bool.not_false, if_true]; rw [if_neg (fun x : D_areas l t => h2 x.1)]
  · rw [if_neg h, if_neg h]

def D_slowFrom (s : Int) : Nat → Int → Int
  | 0, i => i
  | d + 1, i => if tmv i * s < 1000000 then D_slowFrom s d (i + 1) else i

def D_slow (s : Int) : Int := D_slowFrom s 37 0

def D_strength (per keeps vol used age : Int) : Int := if age ≥ keeps then 0 else 1000 * (vol * per - 1000 * used) / (vol * per) * (keeps - age) / keeps

def D_can (p k v u g area t : Int) : Prop := D_slow (D_strength p k v u g) ≤ t ∧ D_vol p v (u + area) g
instance (p k v u g area t : Int) : Decidable (D_can p k v u g area t) := by unfold D_can; infer_instance

def D_fill (v u g m : Int) : Int × Int × Int := (v, u * (v - m) / v, g * (v - m) / v)

def D_fillCan (p k v u g a t m : Int) : Prop := D_can p k (D_fill v u g m).1 (D_fill v u g m).2.1 (D_fill v u g m).2.2 a t
instance (p k v u g a t m : Int) : Decidable (D_fillCan p k v u g a t m) := by unfold D_fillCan; infer_instance

def D_leastM (p k v u g a t : Int) : Nat → Int → Int
  | 0, m => m
  | e + 1, m => if D_fillCan p k v u g a t m then m else D_leastM p k v u g a t e (m + 1)

def D_lrep (p k c d t : Int) : List Int → List Int → Int → Int → Int → Int → List Int × Int × Int
  | [], o, sm, _, _, _ => (o, sm, 0)
  | a :: r, o, sm, v, u, g => if D_leastM p k v u g a t (v.toNat + 1) 0 ≤ v then D_lrep p k c d t r (o ++ [D_leastM p k v u g a t (v.toNat + 1) 0]) (wrap64 (sm + D_leastM p k v u g a t (v.toNat + 1) 0)) (D_fill v u g (D_leastM p k v u g a t (v.toNat + 1) 0)).1 ((D_fill v u g (D_leastM p k v u g a t (v.toNat + 1) 0)).2.1 + a) (D_fill v u g (D_leastM p k v u g a t (v.toNat + 1) 0)).2.2
    else ([], 0, 6)

theorem L_lrepLen (p k c d t : Int) : ∀ (l o : List Int) (sm v u g : Int), (D_lrep p k c d t l o sm v u g).1.length ≤ o.length + l.length
  | [], o, sm, v, u, g => by simp [D_lrep]
  | a :: r, o, sm, v, u, g => by
    unfold D_lrep
    split
    · have := L_lrepLen p k c d t r (o ++ [D_leastM p k v u g a t (v.toNat + 1) 0]) (wrap64 (sm + D_leastM p k v u g a t (v.toNat + 1) 0)) (D_fill v u g (D_leastM p k v u g a t (v.toNat + 1) 0)).1 ((D_fill v u g (D_leastM p k v u g a t (v.toNat + 1) 0)).2.1 + a) (D_fill v u g (D_leastM p k v u g a t (v.toNat + 1) 0)).2.2
      simp at this ⊢; omega
    · simp

theorem L_leastMRange (p k v u g a t : Int) (e : Nat) : ∀ m, m ≤ D_leastM p k v u g a t e m ∧ D_leastM p k v u g a t e m ≤ m + e ∧ (D_leastM p k v u g a t e m < m + e → D_fillCan p k v u g a t (D_leastM p k v u g a t e m)) := by
  induction e with
  | zero => intro m; unfold D_leastM; exact ⟨by omega, by omega, fun h => by omega⟩
  | succ e ih =>
    intro m
    unfold D_leastM
    split
    · rename_i h; exact ⟨by omega, by omega, fun _ => h⟩
    · have := ih (m + 1)
      exact ⟨by omega, by omega, fun h => this.2.2 (by omega)⟩

theorem L_quot {a b q : Int} (ha : 0 ≤ a) (hb : 0 < b) (h : a ≤ q * b) : 0 ≤ a / b ∧ a / b ≤ q := by
  refine ⟨Int.ediv_nonneg ha (by omega), ?_⟩
  have := Int.ediv_le_ediv hb h
  rwa [Int.mul_ediv_cancel _ (by omega)] at this

theorem L_strengthParts {p k v u g : Int} {a b c d : Int} (hD : D_dev p k c d) (hV : D_vol p v u g) (hg : g < k) :
    (0 < v * p ∧ v * p ≤ 2000000000) ∧ (0 ≤ 1000 * (v * p - 1000 * u) / (v * p) ∧ 1000 * (v * p - 1000 * u) / (v * p) ≤ 1000) ∧
    (0 ≤ 1000 * (v * p - 1000 * u) / (v * p) * (k - g) ∧ 1000 * (v * p - 1000 * u) / (v * p) * (k - g) ≤ 1000 * k) := by
  unfold D_dev at hD
  unfold D_vol at hV
  have h1 := L_mulb (x := v) (y := p) (X := 20000) (Y := 100000) (by omega) (by omega) (by omega) (by omega)
  have h2 : 0 < v * p := Int.mul_pos (by omega) (by omega)
  have h3 := L_quot (a := 1000 * (v * p - 1000 * u)) (b := v * p) (q := 1000) (by omega) h2 (by omega)
  have h4 := L_mulb (x := 1000 * (v * p - 1000 * u) / (v * p)) (y := k - g) (X := 1000) (Y := k) h3.1 h3.2 (by omega) (by omega)
  exact ⟨⟨h2, by omega⟩, h3, h4⟩

theorem L_strengthRange {p k v u g c d : Int} (hD : D_dev p k c d) (hV : D_vol p v u g) : 0 ≤ D_strength p k v u g ∧ D_strength p k v u g ≤ 1000 := by
  unfold D_strength
  split
  · omega
  · rename_i hg
    have hh := L_strengthParts (a := 0) (b := 0) hD hV (by omega)
    unfold D_dev at hD
    exact L_quot hh.2.2.1 (by omega) hh.2.2.2

theorem L_slowFrom (s : Int) (d : Nat) : ∀ i : Int, 0 ≤ i → i + d = 37 → i ≤ D_slowFrom s d i ∧ D_slowFrom s d i ≤ 37 ∧ (∀ j, i ≤ j → j < D_slowFrom s d i → tmv j * s < 1000000) ∧ (D_slowFrom s d i ≤ 36 → 1000000 ≤ tmv (D_slowFrom s d i) * s) := by
  induction d with
  | zero => intro i h0 hd; unfold D_slowFrom; exact ⟨by omega, by omega, fun j h1 h2 => by omega, fun h => by omega⟩
  | succ d ih =>
    intro i h0 hd
    unfold D_slowFrom
    split
    · rename_i hlt
      obtain ⟨h1, h2, h3, h4⟩ := ih (i + 1) (by omega) (by omega)
      refine ⟨by omega, h2, fun j hj hj2 => ?_, h4⟩
      by_cases e : j = i
      · rw [e]; exact hlt
      · exact h3 j (by omega) hj2
    · rename_i hge
      exact ⟨by omega, by omega, fun j h1 h2 => by omega, fun _ => by omega⟩

theorem L_slowRange (s : Int) : 0 ≤ D_slow s ∧ D_slow s ≤ 37 := by
  have := L_slowFrom s 37 0 (by omega) (by omega)
  exact ⟨this.1, this.2.1⟩

theorem L_specStrength {p k v u g c d : Int} (hD : D_dev p k c d) (hV : D_vol p v u g) : spec_l04Strength.f p k c d v u g = some (D_strength p k v u g) := by
  unfold spec_l04Strength.f D_strength
  by_cases hg : g ≥ k
  · rw [if_pos hg, if_pos hg]
  · rw [if_neg hg, if_neg hg]
    obtain ⟨h1, h2, h3⟩ := L_strengthParts (a := 0) (b := 0) hD hV (by omega)
    unfold D_dev at hD
    unfold D_vol at hV
    have h4 := L_quot h3.1 (show 0 < k by omega) h3.2
    rw [L_w (x := v * p) (by omega), if_neg (by omega), if_neg (by omega), L_w (x := 1000 * u) (by omega), L_w (x := v * p - 1000 * u) (by omega), L_w (x := 1000 * (v * p - 1000 * u)) (by omega),
      Int.tdiv_eq_ediv_of_nonneg (a := 1000 * (v * p - 1000 * u)) (by omega), L_w (x := 1000 * (v * p - 1000 * u) / (v * p)) (by omega), L_w (x := k - g) (by omega),
      L_w (x := 1000 * (v * p - 1000 * u) / (v * p) * (k - g)) (by omega), Int.tdiv_eq_ediv_of_nonneg h3.1, L_w (by omega)]

theorem L_specTimeAll : ∀ n : Nat, n < 37 → spec_l01Time.f n = some (tmv n) := by decide +kernel

theorem L_specTime {k : Int} (h : 0 ≤ k ∧ k ≤ 36) : spec_l01Time.f k = some (tmv k) := by
  obtain ⟨n, rfl⟩ : ∃ n : Nat, k = n := ⟨k.toNat, by omega⟩
  exact L_specTimeAll n (by omega)

theorem L_tmvAll : ∀ n : Nat, n < 37 → 1000 ≤ tmv n ∧ tmv n ≤ 4096000 := by decide

theorem L_tmv {k : Int} (h : 0 ≤ k ∧ k ≤ 36) : 1000 ≤ tmv k ∧ tmv k ≤ 4096000 := by
  obtain ⟨n, rfl⟩ : ∃ n : Nat, k = n := ⟨k.toNat, by omega⟩
  exact L_tmvAll n (by omega)

theorem L_tms {k s : Int} (h : 0 ≤ k ∧ k ≤ 36) (hs : 0 ≤ s ∧ s ≤ 1000) : wrap64 (tmv k * s) = tmv k * s := by
  have h1 := L_tmv h
  have h2 := L_mulb (x := tmv k) (y := s) (X := 4096000) (Y := 1000) (by omega) (by omega) hs.1 hs.2
  exact L_w (by omega)

theorem L_specSlowFrom {s : Int} (hs : 0 ≤ s ∧ s ≤ 1000) (d : Nat) : ∀ (k : Nat) (i : Int), 0 ≤ i → i + d = 37 → d < k → spec_l04Slower.l0 k s i = some (if D_slowFrom s d i ≤ 36 then D_slowFrom s d i else -1) := by
  induction d with
  | zero =>
    intro k i h0 hd hk
    obtain ⟨k, rfl⟩ : ∃ m, k = m + 1 := ⟨k - 1, by omega⟩
    have e : D_slowFrom s 0 i = i := rfl
    simp only [spec_l04Slower.l0]
    rw [if_neg (by omega), e, if_neg (by omega)]
  | succ d ih =>
    intro k i h0 hd hk
    obtain ⟨k, rfl⟩ : ∃ m, k = m + 1 := ⟨k - 1, by omega⟩
    simp only [spec_l04Slower.l0]
    rw [if_pos (by omega), L_specTime (by omega)]
    simp only [Option.bind_some]
    rw [L_tms (by omega) hs]
    by_cases h : tmv i * s < 1000000
    · have e : D_slowFrom s (d + 1) i = D_slowFrom s d (i + 1) := by simp only [D_slowFrom]; rw [if_pos h]
      rw [if_neg (by omega), L_w (x := i + 1) (by omega), e]
      exact ih k (i + 1) (by omega) (by omega) (by omega)
    · have e : D_slowFrom s (d + 1) i = i := by simp only [D_slowFrom]; rw [if_neg h]
      rw [if_pos (by omega), e, if_pos (by omega)]

theorem L_specSlower {s : Int} (hs : 0 ≤ s ∧ s ≤ 1000) {k : Nat} (hk : 38 ≤ k) : spec_l04Slower.f k s = some (if D_slow s ≤ 36 then D_slow s else -1) :=
  L_specSlowFrom hs 37 k 0 (by omega) (by omega) (by omega)

theorem L_specSheet {p k c d v u g a : Int} (hc : -128 ≤ c ∧ c ≤ 127) (hd : -128 ≤ d ∧ d ≤ 127) (hD : D_dev p k c d) (hV : D_vol p v u g) (ha : 1 ≤ a ∧ a ≤ 5000) {n : Nat} (hn : 38 ≤ n) :
    spec_l04Sheet.f n p k c d v u g a = some (if D_slow (D_strength p k v u g) ≤ 36 then (v, u + a, g, decide (D_vol p v (u + a) g)) else (0, 0, 0, false)) := by
  unfold spec_l04Sheet.f
  have hs := L_strengthRange hD hV
  have hr := L_slowRange (D_strength p k v u g)
  have hv := hV
  unfold D_vol at hv
  rw [L_specStrength hD hV]
  simp only [Option.bind_some]
  rw [L_specSlower hs hn]
  simp only [Option.bind_some]
  by_cases h : D_slow (D_strength p k v u g) ≤ 36
  · rw [if_pos h, if_neg (by omega), L_w (x := u + a) (by omega), L_specOk hc hd, if_pos h]
    simp [hD]
  · rw [if_neg h, if_pos (by omega), if_neg h]

theorem L_specReady {p k c d v u g a t : Int} (hc : -128 ≤ c ∧ c ≤ 127) (hd : -128 ≤ d ∧ d ≤ 127) (hD : D_dev p k c d) (hV : D_vol p v u g) (ha : 1 ≤ a ∧ a ≤ 5000) (ht : 0 ≤ t ∧ t ≤ 36) {n : Nat} (hn : 38 ≤ n) :
    ∃ x y z : Int, spec_l04Ready.f n p k c d v u g a t = some (x, y, z, decide (D_can p k v u g a t)) ∧ (D_can p k v u g a t → x = v ∧ y = u + a ∧ z = g) := by
  unfold spec_l04Ready.f
  have hs := L_strengthRange hD hV
  have hr := L_slowRange (D_strength p k v u g)
  rw [L_specStrength hD hV]
  simp only [Option.bind_some]
  rw [L_specSlower hs hn, L_specSheet hc hd hD hV ha hn]
  simp only [Option.bind_some]
  by_cases h : D_slow (D_strength p k v u g) ≤ 36
  · rw [if_pos h, if_pos h]
    by_cases h2 : D_slow (D_strength p k v u g) > t
    · rw [if_pos h2]
      exact ⟨0, 0, 0, by rw [decide_eq_false (show ¬ D_can p k v u g a t by unfold D_can; omega)], fun x => by unfold D_can at x; omega⟩
    · rw [if_neg h2]
      refine ⟨v, u + a, g, ?_, fun _ => ⟨rfl, rfl, rfl⟩⟩
      simp only [Option.bind_some]
      congr 4
      rw [decide_eq_decide]
      unfold D_can
      exact ⟨fun x => ⟨by omega, x⟩, fun x => x.2⟩
  · rw [if_neg h, if_neg h, if_neg (by omega)]
    exact ⟨0, 0, 0, by rw [decide_eq_false (show ¬ D_can p k v u g a t by unfold D_can; omega)], fun x => by unfold D_can at x; omega⟩

theorem L_fill0 {p v u g : Int} (hV : D_vol p v u g) : D_fill v u g 0 = (v, u, g) := by
  unfold D_vol at hV
  unfold D_fill
  rw [show v - 0 = v by omega, Int.mul_ediv_cancel _ (by omega), Int.mul_ediv_cancel _ (by omega)]

theorem L_fillb {x v m X : Int} (hx : 0 ≤ x ∧ x ≤ X) (hv : 1 ≤ v ∧ v ≤ 20000) (hm : 0 ≤ m ∧ m ≤ v) : (0 ≤ x * (v - m) ∧ x * (v - m) ≤ X * 20000) ∧ 0 ≤ x * (v - m) / v ∧ x * (v - m) / v ≤ x := by
  have h1 := L_mulb (x := x) (y := v - m) (X := X) (Y := 20000) hx.1 hx.2 (by omega) (by omega)
  have h2 := L_mulb (x := x) (y := v - m) (X := x) (Y := v) hx.1 (by omega) (by omega) (by omega)
  exact ⟨h1, L_quot h1.1 (by omega) h2.2⟩

theorem L_fillVol {p v u g m : Int} (h : D_vol p v u g) (hm : 0 ≤ m ∧ m ≤ v) : D_vol p (D_fill v u g m).1 (D_fill v u g m).2.1 (D_fill v u g m).2.2 := by
  unfold D_vol at h ⊢
  have h1 := L_fillb (x := u) (v := v) (m := m) (X := 100000000) (by omega) (by omega) hm
  have h2 := L_fillb (x := g) (v := v) (m := m) (X := 100000) (by omega) (by omega) hm
  unfold D_fill
  dsimp only
  omega

theorem L_specFill {p v u g m : Int} (h : D_vol p v u g) (hm : 0 ≤ m ∧ m ≤ v) : spec_l04Fill.f v u g m = some (D_fill v u g m) := by
  unfold D_vol at h
  have h1 := L_fillb (x := u) (v := v) (m := m) (X := 100000000) (by omega) (by omega) hm
  have h2 := L_fillb (x := g) (v := v) (m := m) (X := 100000) (by omega) (by omega) hm
  unfold spec_l04Fill.f D_fill
  rw [if_neg (by omega), L_w (x := v - m) (by omega), L_w (x := u * (v - m)) (by omega), L_w (x := g * (v - m)) (by omega), Int.tdiv_eq_ediv_of_nonneg h1.1.1, Int.tdiv_eq_ediv_of_nonneg h2.1.1,
    L_w (x := u * (v - m) / v) (by omega), L_w (x := g * (v - m) / v) (by omega)]

theorem L_specLeastL1 {p k v u g c d a t : Int} (hc : -128 ≤ c ∧ c ≤ 127) (hd : -128 ≤ d ∧ d ≤ 127) (hD : D_dev p k c d) (hV : D_vol p v u g) (ha : 1 ≤ a ∧ a ≤ 5000) (ht : 0 ≤ t ∧ t ≤ 36) (l : List Int) (i : Int) (hi : 0 ≤ i) (hi2 : i < l.length) (hrd : rd l i = a) (o : List Int) (ho : o.length < 17592186044416) (sm : Int) (e : Nat) :
    ∀ (n : Nat) (m X Y Z : Int), 0 ≤ m → m + e = v → 2 * e + 100 ≤ n → (D_fillCan p k v u g a t m → X = (D_fill v u g m).1 ∧ Y = (D_fill v u g m).2.1 + a ∧ Z = (D_fill v u g m).2.2) →
    ∃ n', n ≤ n' + 2 * e + 2 ∧ spec_LeastReplenished.l1 n l t o sm i m (decide (D_fillCan p k v u g a t m)) p k c d v u g X Y Z =
      if D_leastM p k v u g a t (e + 1) m ≤ v then spec_LeastReplenished.l0 n' l t (o ++ [D_leastM p k v u g a t (e + 1) m]) (wrap64 (sm + D_leastM p k v u g a t (e + 1) m)) (wrap64 (i + 1)) p k c d (D_fill v u g (D_leastM p k v u g a t (e + 1) m)).1 ((D_fill v u g (D_leastM p k v u g a t (e + 1) m)).2.1 + a) (D_fill v u g (D_leastM p k v u g a t (e + 1) m)).2.2
      else some ([], 0, 6) := by
  have hv : v ≤ 20000 := by unfold D_vol at hV; omega
  induction e with
  | zero =>
    intro n m X Y Z h0 he hn hX
    obtain ⟨n, rfl⟩ : ∃ q, n = q + 2 := ⟨n - 2, by omega⟩
    refine ⟨n, by omega, ?_⟩
    by_cases hcan : D_fillCan p k v u g a t m
    · obtain ⟨e1, e2, e3⟩ := hX hcan
      simp only [spec_LeastReplenished.l1, spec_LeastReplenished.j2, D_leastM, hcan, decide_true, if_true, Bool.false_eq_true, if_false]
      rw [if_pos ho, if_pos (by omega), e1, e2, e3]
    · simp only [spec_LeastReplenished.l1, spec_LeastReplenished.j2, D_leastM, hcan, decide_false, Bool.false_eq_true, if_false]
      rw [if_neg (show ¬ (m + 1 ≤ v) by omega)]
      have : decide (m < v) = false := decide_eq_false (by omega)
      rw [this]
      simp
  | succ e ih =>
    intro n m X Y Z h0 he hn hX
    obtain ⟨n, rfl⟩ : ∃ q, n = q + 2 := ⟨n - 2, by omega⟩
    by_cases hcan : D_fillCan p k v u g a t m
    · refine ⟨n, by omega, ?_⟩
      obtain ⟨e1, e2, e3⟩ := hX hcan
      have hM : D_leastM p k v u g a t (e + 1 + 1) m = m := by simp [D_leastM, hcan]
      rw [hM, if_pos (by omega)]
      simp only [spec_LeastReplenished.l1, spec_LeastReplenished.j2, hcan, decide_true, if_true, Bool.false_eq_true, if_false]
      rw [if_pos ho, e1, e2, e3]
    · obtain ⟨x, y, z, r1, r2⟩ := L_specReady (v := (D_fill v u g (m + 1)).1) (u := (D_fill v u g (m + 1)).2.1) (g := (D_fill v u g (m + 1)).2.2) hc hd hD (L_fillVol hV ⟨by omega, by omega⟩) ha ht (n := n) (by omega)
      obtain ⟨n', hn', h2⟩ := ih n (m + 1) x y z (by omega) (by omega) (by omega) r2
      refine ⟨n', by omega, ?_⟩
      have hM : D_leastM p k v u g a t (e + 1 + 1) m = D_leastM p k v u g a t (e + 1) (m + 1) := by conv => lhs; unfold D_leastM; rw [if_neg hcan]
      rw [hM, ← h2]
      simp only [spec_LeastReplenished.l1, spec_LeastReplenished.j2, hcan, decide_false, Bool.false_eq_true, if_false]
      have : decide (m < v) = true := decide_eq_true (by omega)
      rw [this, L_w (x := m + 1) (by omega), L_specFill hV ⟨by omega, by omega⟩]
      simp only [if_true, Option.bind_some]
      rw [if_pos hi, if_pos (by omega), hrd, r1]
      rfl

theorem L_implFill {p v u g m : Int} (h : D_vol p v u g) (hm : 0 ≤ m ∧ m ≤ v) : impl_Bath_replenished.f v u g m = some (D_fill v u g m) := by
  unfold D_vol at h
  have h1 := L_fillb (x := u) (v := v) (m := m) (X := 100000000) (by omega) (by omega) hm
  have h2 := L_fillb (x := g) (v := v) (m := m) (X := 100000) (by omega) (by omega) hm
  unfold impl_Bath_replenished.f D_fill
  rw [if_neg (by omega), L_w (x := v - m) (by omega), L_w (x := u * (v - m)) (by omega), L_w (x := g * (v - m)) (by omega), Int.tdiv_eq_ediv_of_nonneg h1.1.1, Int.tdiv_eq_ediv_of_nonneg h2.1.1,
    L_w (x := u * (v - m) / v) (by omega), L_w (x := g * (v - m) / v) (by omega)]

theorem L_implStrength {p k v u g c d : Int} (hD : D_dev p k c d) (hV : D_vol p v u g) : impl_Bath_strength.f v u g p k c d = some (D_strength p k v u g) := by
  unfold impl_Bath_strength.f D_strength
  have hDD := hD
  have hVV := hV
  unfold D_dev at hDD
  unfold D_vol at hVV
  have h1 := L_mulb (x := v) (y := p) (X := 20000) (Y := 100000) (by omega) (by omega) (by omega) (by omega)
  have h0 : 0 < v * p := Int.mul_pos (by omega) (by omega)
  have h3 := L_quot (a := 1000 * (v * p - 1000 * u)) (b := v * p) (q := 1000) (by omega) h0 (by omega)
  rw [L_w (x := v * p) (by omega), if_neg (by omega), if_neg (by omega), L_w (x := 1000 * u) (by omega), L_w (x := v * p - 1000 * u) (by omega), L_w (x := 1000 * (v * p - 1000 * u)) (by omega),
      Int.tdiv_eq_ediv_of_nonneg (a := 1000 * (v * p - 1000 * u)) (by omega), L_w (x := 1000 * (v * p - 1000 * u) / (v * p)) (by omega), L_w (x := k - g) (by omega)]
  by_cases hg : g ≥ k
  · rw [if_pos hg, show mx 0 (k - g) = 0 by unfold mx; omega, Int.mul_zero]
    simp [wrap64]
  · obtain ⟨_, h2, h3⟩ := L_strengthParts (a := 0) (b := 0) hD hV (by omega)
    have h4 := L_quot h3.1 (show 0 < k by omega) h3.2
    rw [if_neg hg, show mx 0 (k - g) = k - g by unfold mx; omega, L_w (x := 1000 * (v * p - 1000 * u) / (v * p) * (k - g)) (by omega), Int.tdiv_eq_ediv_of_nonneg h3.1, L_w (by omega)]

theorem L_timeOf {k : Int} (h : 0 ≤ k ∧ k ≤ 36) : impl_timeOf.f k = some (tmv k) := by
  unfold impl_timeOf.f; rw [if_pos h.1, if_pos h.2]

theorem L_tmvMonoAll : ∀ i : Nat, i < 37 → ∀ j : Nat, j < 37 → i ≤ j → tmv i ≤ tmv j := by decide +kernel

theorem L_tmvMono {i j : Int} (h0 : 0 ≤ i) (h : i ≤ j) (h1 : j ≤ 36) : tmv i ≤ tmv j := by
  obtain ⟨n, rfl⟩ : ∃ n : Nat, i = n := ⟨i.toNat, by omega⟩
  obtain ⟨m, rfl⟩ : ∃ m : Nat, j = m := ⟨j.toNat, by omega⟩
  exact L_tmvMonoAll n (by omega) m (by omega) (by omega)

theorem L_slowIff {s t : Int} (hs : 0 ≤ s) (ht : 0 ≤ t ∧ t ≤ 36) : 1000000 ≤ tmv t * s ↔ D_slow s ≤ t := by
  obtain ⟨_, _, h3, h4⟩ := L_slowFrom s 37 0 (by omega) (by omega)
  have hr := L_slowRange s
  constructor
  · intro h
    rcases Int.lt_or_le t (D_slow s) with hlt | hle
    · have := h3 t ht.1 hlt
      omega
    · exact hle
  · intro h
    have h5 := h4 (by unfold D_slow at h; omega)
    have h6 := L_tmvMono (i := D_slow s) (j := t) hr.1 h ht.2
    have h7 : tmv (D_slow s) * s ≤ tmv t * s := Int.mul_le_mul_of_nonneg_right h6 hs
    unfold D_slow at h7
    omega

theorem L_implCan {p k c d v u g a t : Int} (hD : D_dev p k c d) (hV : D_vol p v u g) (ha : 1 ≤ a ∧ a ≤ 5000) (ht : 0 ≤ t ∧ t ≤ 36) :
    impl_Bath_canDevelop.f v u g p k c d a t = some (decide (D_can p k v u g a t)) := by
  unfold impl_Bath_canDevelop.f
  have hs := L_strengthRange hD hV
  have hv := hV
  unfold D_vol at hv
  rw [L_implStrength hD hV]
  simp only [Option.bind_some]
  rw [L_timeOf ht]
  simp only [Option.bind_some]
  rw [L_tms ht hs, L_w (x := u + a) (by omega), L_isBath hD]
  have hi := L_slowIff hs.1 ht
  by_cases h : 1000000 ≤ tmv t * D_strength p k v u g
  · rw [if_pos h]
    simp only [Option.bind_some]
    refine L_sd ?_
    unfold D_can
    exact ⟨fun x => ⟨hi.mp h, x⟩, fun x => x.2⟩
  · rw [if_neg h]
    refine L_sf ?_
    unfold D_can
    exact fun x => h (hi.mpr x.1)

theorem L_lfLeast {p k v u g c d a t : Int} (hD : D_dev p k c d) (hV : D_vol p v u g) (ha : 1 ≤ a ∧ a ≤ 5000) (ht : 0 ≤ t ∧ t ≤ 36) (e : Nat) : ∀ (n : Nat) (m : Int), 0 ≤ m → m + e = v + 1 → e < n →
    impl_Bath_leastFor.lf (fun x y z => impl_Bath_canDevelop.f x y z p k c d a t) v u g n m = some (D_leastM p k v u g a t e m) := by
  induction e with
  | zero =>
    intro n m h0 he hn
    obtain ⟨n, rfl⟩ : ∃ q, n = q + 1 := ⟨n - 1, by omega⟩
    simp only [impl_Bath_leastFor.lf, D_leastM]
    rw [if_neg (by omega)]
  | succ e ih =>
    intro n m h0 he hn
    obtain ⟨n, rfl⟩ : ∃ q, n = q + 1 := ⟨n - 1, by omega⟩
    have hv : v ≤ 20000 := by unfold D_vol at hV; omega
    simp only [impl_Bath_leastFor.lf, D_leastM]
    rw [if_pos (by omega), L_implFill hV ⟨h0, by omega⟩]
    simp only [Option.bind_some]
    rw [L_implCan hD (L_fillVol hV ⟨h0, by omega⟩) ha ht]
    simp only [Option.bind_some, decide_eq_true_eq]
    by_cases hq : D_fillCan p k v u g a t m
    · rw [if_pos hq]
      unfold D_fillCan at hq
      rw [if_pos hq]
    · rw [if_neg hq]
      unfold D_fillCan at hq
      rw [if_neg hq, L_w (x := m + 1) (by omega), ih n (m + 1) (by omega) (by omega) (by omega)]

theorem L_lrepLoops {p k c d t : Int} (hc : -128 ≤ c ∧ c ≤ 127) (hd : -128 ≤ d ∧ d ≤ 127) (hD : D_dev p k c d) (ht : 0 ≤ t ∧ t ≤ 36) (l : List Int) (hl : ∀ x ∈ l, 1 ≤ x ∧ x ≤ 5000) (hn : l.length ≤ 1048576) (e : Nat) :
    ∀ (n n' : Nat) (o : List Int) (sm i v u g : Int), D_vol p v u g → 0 ≤ i → i + e = l.length → (o.length : Int) ≤ i → 40200 * e + 200 ≤ n → e < n' →
    spec_LeastReplenished.l0 n l t o sm i p k c d v u g = some (D_lrep p k c d t (l.drop i.toNat) o sm v u g) ∧ impl_LeastReplenished.l0 p k c d l t n' o sm i v u g = some (D_lrep p k c d t (l.drop i.toNat) o sm v u g) := by
  induction e with
  | zero =>
    intro n n' o sm i v u g hV h0 hi ho hk hk'
    obtain ⟨n, rfl⟩ : ∃ q, n = q + 1 := ⟨n - 1, by omega⟩
    obtain ⟨n', rfl⟩ : ∃ q, n' = q + 1 := ⟨n' - 1, by omega⟩
    simp only [spec_LeastReplenished.l0, impl_LeastReplenished.l0]
    rw [if_neg (by omega), if_neg (by omega), List.drop_eq_nil_of_le (by omega)]
    exact ⟨rfl, rfl⟩
  | succ e ih =>
    intro n n' o sm i v u g hV h0 hi ho hk hk'
    obtain ⟨n, rfl⟩ : ∃ q, n = q + 1 := ⟨n - 1, by omega⟩
    obtain ⟨n', rfl⟩ : ∃ q, n' = q + 1 := ⟨n' - 1, by omega⟩
    have hv : 1 ≤ v ∧ v ≤ 20000 := by unfold D_vol at hV; omega
    obtain ⟨hlt, ea⟩ := L_rdGet (l := l) (i := i) h0 (by omega)
    have ha := hl _ (List.getElem_mem hlt)
    rw [← ea] at ha
    have q : l.drop i.toNat = rd l i :: l.drop (i + 1).toNat := by rw [List.drop_eq_getElem_cons hlt, ea, show (i + 1).toNat = i.toNat + 1 by omega]
    obtain ⟨m1, m2, m3⟩ := L_leastMRange p k v u g (rd l i) t (v.toNat + 1) 0
    constructor
    · obtain ⟨x, y, z, r1, r2⟩ := L_specReady (v := v) (u := u) (g := g) hc hd hD hV ha ht (n := n) (by omega)
      have f0 := L_fill0 hV
      have hcan : D_can p k v u g (rd l i) t ↔ D_fillCan p k v u g (rd l i) t 0 := by unfold D_fillCan; rw [f0]
      obtain ⟨n2, hn2, h2⟩ := L_specLeastL1 hc hd hD hV ha ht l i h0 (by omega) rfl o (by omega) sm v.toNat n 0 x y z (by omega) (by omega) (by omega) (fun h => by rw [f0]; exact r2 (hcan.2 h))
      simp only [spec_LeastReplenished.l0]
      rw [if_pos (by omega), if_pos h0, r1]
      simp only [Option.bind_some]
      rw [decide_eq_decide.mpr hcan, h2, q]
      unfold D_lrep
      split
      · rename_i hM
        have hF := m3 (by omega)
        have hV2 : D_vol p (D_fill v u g (D_leastM p k v u g (rd l i) t (v.toNat + 1) 0)).1 ((D_fill v u g (D_leastM p k v u g (rd l i) t (v.toNat + 1) 0)).2.1 + rd l i) (D_fill v u g (D_leastM p k v u g (rd l i) t (v.toNat + 1) 0)).2.2 := hF.2
        rw [L_w (x := i + 1) (by omega)]
        exact (ih n2 n' _ _ (i + 1) _ _ _ hV2 (by omega) (by omega) (by simp; omega) (by omega) (by omega)).1
      · rfl
    · simp only [impl_LeastReplenished.l0]
      rw [if_pos (by omega), L_lfLeast hD hV ha ht (v.toNat + 1) _ 0 (by omega) (by omega) (by omega), q]
      simp only [Option.bind_some]
      unfold D_lrep
      by_cases hM : D_leastM p k v u g (rd l i) t (v.toNat + 1) 0 ≤ v
      · have hF := m3 (by omega)
        have hV2 : D_vol p (D_fill v u g (D_leastM p k v u g (rd l i) t (v.toNat + 1) 0)).1 ((D_fill v u g (D_leastM p k v u g (rd l i) t (v.toNat + 1) 0)).2.1 + rd l i) (D_fill v u g (D_leastM p k v u g (rd l i) t (v.toNat + 1) 0)).2.2 := hF.2
        have hu : wrap64 ((D_fill v u g (D_leastM p k v u g (rd l i) t (v.toNat + 1) 0)).2.1 + rd l i) = (D_fill v u g (D_leastM p k v u g (rd l i) t (v.toNat + 1) 0)).2.1 + rd l i := L_w (by unfold D_vol at hV2; omega)
        rw [if_neg (by omega), if_pos hM, L_implFill hV ⟨by omega, hM⟩]
        simp only [Option.bind_some]
        rw [if_pos (by omega), L_w (x := i + 1) (by omega), hu]
        exact (ih (40200 * e + 200) n' _ _ (i + 1) _ _ _ hV2 (by omega) (by omega) (by simp; omega) (by omega) (by omega)).2
      · rw [if_pos (by omega), if_neg hM]

theorem L_leastReplenished {p k c d v u g t : Int} (hc : -128 ≤ c ∧ c ≤ 127) (hd : -128 ≤ d ∧ d ≤ 127) (l : List Int) (hn : l.length ≤ 1048576) :
    ∃ R s m, R.length ≤ l.length ∧ ∀ n, 40200 * l.length + 300 ≤ n → spec_LeastReplenished.f n p k c d v u g l t = some (R, s, m) ∧ impl_LeastReplenished.f p k c d v u g l t = some (R, s, m) := by
  by_cases h1 : D_dev p k c d ∧ D_vol p v u g
  · by_cases h2 : (l.length : Int) > 60
    · refine ⟨[], 0, 3, by simp, fun n hn' => ?_⟩
      unfold spec_LeastReplenished.f impl_LeastReplenished.f
      rw [L_specAreas hc hd l hn (by omega), L_implAreas hc hd l]
      simp only [Option.bind_some]
      rw [if_pos h1, if_pos h2]
      exact ⟨rfl, rfl⟩
    · by_cases h3 : D_areas l t
      · refine ⟨(D_lrep p k c d t l [] 0 v u g).1, (D_lrep p k c d t l [] 0 v u g).2.1, (D_lrep p k c d t l [] 0 v u g).2.2, by simpa using L_lrepLen p k c d t l [] 0 v u g, fun n hn' => ?_⟩
        unfold spec_LeastReplenished.f impl_LeastReplenished.f
        rw [L_specAreas hc hd l hn (by omega), L_implAreas hc hd l]
        simp only [Option.bind_some]
        rw [if_pos h1, if_neg h2, if_pos h3]
        simp only [if_true]
        exact L_lrepLoops hc hd h1.1 h3.2 l h3.1 hn l.length n (l.length + 1) [] 0 0 v u g h1.2 (by omega) (by omega) (by simp) (by omega) (by omega)
      · refine ⟨[], 0, 2, by simp, fun n hn' => ?_⟩
        unfold spec_LeastReplenished.f impl_LeastReplenished.f
        rw [L_specAreas hc hd l hn (by omega), L_implAreas hc hd l]
        simp only [Option.bind_some]
        rw [if_pos h1, if_neg h2, if_neg h3]
        exact ⟨rfl, rfl⟩
  · refine ⟨[], 0, 1, by simp, fun n hn' => ?_⟩
    unfold spec_LeastReplenished.f impl_LeastReplenished.f
    rw [L_specAreas hc hd l hn (by omega), L_implAreas hc hd l]
    simp only [Option.bind_some]
    rw [if_neg h1]
    exact ⟨rfl, rfl⟩


theorem L_markI (n : Nat) (hn : n ≤ 140737488351232) (d : Nat) : ∀ (k : Nat) (l : List Int) (v i : Int), l.length = n → 0 ≤ i → i + d = n → d < k → 0 ≤ v → v ≤ 281474976702464 + i →
    ∃ l', laws_markInt64S.l0 k l v i = some (v + d, l') ∧ l'.length = n ∧ (∀ j : Int, 0 ≤ j → j < i → rd l' j = rd l j) ∧ (∀ j : Int, i ≤ j → j < n → rd l' j = v + (j - i)) := by
  induction d with
  | zero =>
    intro k l v i hl h0 hd hk hv hv2
    obtain ⟨k, rfl⟩ : ∃ m, k = m + 1 := ⟨k - 1, by omega⟩
    refine ⟨l, ?_, hl, fun _ _ _ => rfl, fun j h1 h2 => by omega⟩
    simp only [laws_markInt64S.l0]; rw [if_neg (by omega)]; simp
  | succ d ih =>
    intro k l v i hl h0 hd hk hv hv2
    obtain ⟨k, rfl⟩ : ∃ m, k = m + 1 := ⟨k - 1, by omega⟩
    obtain ⟨l', e, hl', h1, h2⟩ := ih k (l.set i.toNat v) (v + 1) (i + 1) (by simpa using hl) (by omega) (by omega) (by omega) (by omega) (by omega)
    refine ⟨l', ?_, hl', fun j hj hj2 => ?_, fun j hj hj2 => ?_⟩
    · simp only [laws_markInt64S.l0]; rw [if_pos (by omega), if_pos h0, L_w (x := v + 1) (by omega), L_w (x := i + 1) (by omega), e]
      congr 2; omega
    · rw [h1 j hj (by omega)]
      unfold rd
      rw [List.getD_eq_getElem?_getD, List.getD_eq_getElem?_getD, List.getElem?_set_ne (by omega)]
    · by_cases e2 : j = i
      · subst e2
        rw [h1 j (by omega) (by omega)]
        unfold rd
        rw [List.getD_eq_getElem?_getD, List.getElem?_set_self (by omega)]
        simp
      · rw [h2 j (by omega) hj2]; omega

theorem L_heldI (n : Nat) (hn : n ≤ 140737488351232) (l : List Int) (hl : l.length = n) (d : Nat) : ∀ (k : Nat) (v i : Int), 0 ≤ i → i + d = n → d < k → 0 ≤ v → v ≤ 281474976702464 + i → (∀ j : Int, i ≤ j → j < n → rd l j = v + (j - i)) →
    laws_heldInt64S.l0 k l v i = some (v + d) := by
  induction d with
  | zero =>
    intro k v i h0 hd hk hv hv2 h
    obtain ⟨k, rfl⟩ : ∃ m, k = m + 1 := ⟨k - 1, by omega⟩
    simp only [laws_heldInt64S.l0]; rw [if_neg (by omega)]; simp
  | succ d ih =>
    intro k v i h0 hd hk hv hv2 h
    obtain ⟨k, rfl⟩ : ∃ m, k = m + 1 := ⟨k - 1, by omega⟩
    have h1 := h i (by omega) (by omega)
    simp only [laws_heldInt64S.l0]; rw [if_pos (by omega), if_pos h0, if_pos (by omega), L_w (x := v + 1) (by omega), L_w (x := i + 1) (by omega),
      ih k (v + 1) (i + 1) (by omega) (by omega) (by omega) (by omega) (by omega) (fun j hj hj2 => by rw [h j (by omega) hj2]; omega)]
    congr 1; omega

theorem L_markHeld (l : List Int) (hn : l.length ≤ 140737488351232) : ∃ l', (∀ k, l.length < k → laws_markInt64S.f k l 1 = some (1 + (l.length : Int), l')) ∧ (∀ k, l.length < k → laws_heldInt64S.f k l' 1 = some (1 + (l.length : Int))) := by
  obtain ⟨l', e, hl', _, h2⟩ := L_markI l.length hn l.length (l.length + 1) l 1 0 rfl (by omega) (by omega) (by omega) (by omega) (by omega)
  refine ⟨l', fun k hk => ?_, fun k hk => ?_⟩
  · obtain ⟨l2, e2, hl2, _, h3⟩ := L_markI l.length hn l.length k l 1 0 rfl (by omega) (by omega) hk (by omega) (by omega)
    unfold laws_markInt64S.f
    rw [e2]
    have : l2 = l' := by
      apply List.ext_getElem (by omega)
      intro j hj hj'
      have a := h3 j (by omega) (by omega)
      have b := h2 j (by omega) (by omega)
      unfold rd at a b
      rw [List.getD_eq_getElem?_getD] at a b
      simp only [Int.toNat_natCast] at a b
      rw [List.getElem?_eq_getElem hj] at a
      rw [List.getElem?_eq_getElem hj'] at b
      simp at a b
      omega
    rw [this]
  · unfold laws_heldInt64S.f
    exact L_heldI l.length hn l' hl' l.length k 1 0 (by omega) (by omega) hk (by omega) (by omega) h2

theorem L_eqI (a : List Int) (hn : a.length ≤ 140737488351232) (d : Nat) : ∀ (k : Nat) (i : Int), 0 ≤ i → i + d = a.length → d < k → laws_eqInt64S.l0 k a a i = some true := by
  induction d with
  | zero =>
    intro k i h0 hd hk
    obtain ⟨k, rfl⟩ : ∃ m, k = m + 1 := ⟨k - 1, by omega⟩
    simp only [laws_eqInt64S.l0]; rw [if_neg (by omega)]
  | succ d ih =>
    intro k i h0 hd hk
    obtain ⟨k, rfl⟩ : ∃ m, k = m + 1 := ⟨k - 1, by omega⟩
    simp only [laws_eqInt64S.l0]; rw [if_pos (by omega), if_pos h0, L_w (x := i + 1) (by omega)]
    simp only [if_true]
    rw [if_pos (by omega)]
    exact ih k (i + 1) (by omega) (by omega) (by omega)

theorem L_eqInt64S (a : List Int) (hn : a.length ≤ 140737488351232) {k : Nat} (hk : a.length < k) : laws_eqInt64S.f k a a = some true := by
  unfold laws_eqInt64S.f; rw [if_pos rfl]; exact L_eqI a hn a.length k 0 (by omega) (by omega) hk

theorem FnExactLeastReplenished : ∀ (a0_0 : Int) (a0_1 : Int) (a0_2 : Int) (a0_3 : Int) (a1_0 : Int) (a1_1 : Int) (a1_2 : Int) (l2 : List Int) (a3 : Int), -9223372036854775808 ≤ a0_0 → a0_0 ≤ 9223372036854775807 → -9223372036854775808 ≤ a0_1 → a0_1 ≤ 9223372036854775807 → -128 ≤ a0_2 → a0_2 ≤ 127 → -128 ≤ a0_3 → a0_3 ≤ 127 → -9223372036854775808 ≤ a1_0 → a1_0 ≤ 9223372036854775807 → -9223372036854775808 ≤ a1_1 → a1_1 ≤ 9223372036854775807 → -9223372036854775808 ≤ a1_2 → a1_2 ≤ 9223372036854775807 → (∀ x ∈ l2, -9223372036854775808 ≤ x ∧ x ≤ 9223372036854775807) → l2.length * 8 ≤ 140737488351232 → -9223372036854775808 ≤ a3 → a3 ≤ 9223372036854775807 → ∃ k, laws_FnExactLeastReplenished.f k a0_0 a0_1 a0_2 a0_3 a1_0 a1_1 a1_2 l2 a3 = some true := by
  intro p k c d v u g l t _ _ _ _ hc hc' hd hd' _ _ _ _ _ _ _ hl _ _
  refine ⟨40200 * l.length + 400, ?_⟩
  unfold laws_FnExactLeastReplenished.f laws_toDeveloper.f laws_toBath.f
  by_cases h : (l.length : Int) > 1048576
  · rw [if_pos h]
  · rw [if_neg h]
    simp only [Option.bind_some]
    rw [L_toInt64S l (by omega) (by omega)]
    simp only [Option.bind_some]
    obtain ⟨R, s, m, hR, e'⟩ := L_leastReplenished (p := p) (k := k) (v := v) (u := u) (g := g) (t := t) ⟨hc, hc'⟩ ⟨hd, hd'⟩ l (by omega)
    obtain ⟨l', h1, h2⟩ := L_markHeld R (by omega)
    obtain ⟨l2, h3, _⟩ := L_markHeld l (by omega)
    rw [(e' _ (by omega)).1, (e' (40200 * l.length + 400) (by omega)).2]
    simp only [Option.bind_some]
    rw [L_eqInt64S R (by omega) (by omega)]
    simp only [Option.bind_some, if_true, bne_self_eq_false, laws_FnExactLeastReplenished.j0, Bool.false_eq_true, if_false]
    rw [L_toInt64S l (by omega) (by omega)]
    simp only [Option.bind_some]
    rw [L_eqInt64S l (by omega) (by omega)]
    simp only [Option.bind_some, if_true]
    rw [h3 _ (by omega)]
    simp only [Option.bind_some]
    rw [if_neg (by omega), L_eqInt64S R (by omega) (by omega)]
    simp only [Option.bind_some, if_true, laws_FnExactLeastReplenished.j1, bne_self_eq_false, Bool.false_eq_true, if_false]
    rw [h1 _ (by omega)]
    simp only [Option.bind_some]
    rw [h2 _ (by omega)]
    simp only [Option.bind_some]
    rw [if_neg (by omega)]
    simp only [if_true, laws_toDeveloper.f, laws_toBath.f, Option.bind_some]
    rw [L_toInt64S l (by omega) (by omega)]
    simp only [Option.bind_some]
    rw [(e' (40200 * l.length + 400) (by omega)).2]
    simp only [Option.bind_some]
    rw [L_eqInt64S R (by omega) (by omega)]
    simp only [Option.bind_some, if_true, laws_FnExactLeastReplenished.j2, bne_self_eq_false, Bool.false_eq_true, if_false]
    rw [h2 _ (by omega)]
    simp only [Option.bind_some]
    rw [if_neg (by omega)]
    simp only [if_true]

end Go.Proofs.Ytiaaibiodolcgaa.Pure
