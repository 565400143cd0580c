/- The plain law of FnExactNearestBand: the printed function of the law answers true for all arguments within their kinds' bounds. No condition besides. -/
import Derived.Test.YtcplikffpmihpaaQx19
namespace Go.Proofs.Ytcplikffpmihpaa.Pure
open Go.RowKit Go.Proofs.Ytcplikffpmihpaa.Q Go.Proofs.YtcplikffpmihpaaW.PrintWords Go.Proofs.YtcplikffpmihpaaW.PrintLast Go.Proofs.YtcplikffpmihpaaW.PrintMore
set_option linter.unusedVariables false
set_option linter.unusedSimpArgs false
theorem L_rdGet {l : List Int} {i : Int} (h0 : 0 ≤ i) (h : i < l.length) : ∃ hi : i.toNat < l.length, rd l i = l[i.toNat]'hi :=
  ⟨by omega, by unfold rd; rw [List.getD_eq_getElem?_getD, List.getElem?_eq_getElem (by omega)]; rfl⟩

theorem L_w {x : Int} (h : -9223372036854775808 ≤ x ∧ x ≤ 9223372036854775807) : wrap64 x = x := by unfold wrap64; omega

theorem L_toI (l : List Int) (hn : l.length ≤ 140737488351232) (d : Nat) : ∀ (k : Nat) (out : List Int) (i : Int), out.length = l.length → 0 ≤ i → i + d = l.length → d < k → out.take i.toNat = l.take i.toNat → laws_toInt64S.l0 k l out i = some l := by
  induction d with
  | zero =>
    intro k out i ho h0 hd hk ht
    obtain ⟨k, rfl⟩ : ∃ m, k = m + 1 := ⟨k - 1, by omega⟩
    simp only [laws_toInt64S.l0]; rw [if_neg (by omega)]
    rw [List.take_of_length_le (by omega), List.take_of_length_le (by omega)] at ht
    rw [ht]
  | succ d ih =>
    intro k out i ho h0 hd hk ht
    obtain ⟨k, rfl⟩ : ∃ m, k = m + 1 := ⟨k - 1, by omega⟩
    obtain ⟨hi, e⟩ := L_rdGet (l := l) (i := i) h0 (by omega)
    simp only [laws_toInt64S.l0]; rw [if_pos (by omega), if_pos h0, if_pos (by omega), L_w (x := i + 1) (by omega)]
    refine ih k _ (i + 1) (by simpa using ho) (by omega) (by omega) (by omega) ?_
    rw [show (i + 1).toNat = i.toNat + 1 by omega, List.take_succ_eq_append_getElem (by simp; omega), List.take_succ_eq_append_getElem hi, List.getElem_set_self, List.take_set_of_le (by omega), ht, e]

theorem L_toInt64S (l : List Int) (hn : l.length ≤ 1048576) {k : Nat} (hk : l.length < k) : laws_toInt64S.f k l = some l := by
  unfold laws_toInt64S.f
  rw [if_pos (by omega), if_pos (by omega)]
  exact L_toI l (by omega) l.length k _ 0 (by simp) (by omega) (by omega) hk (by simp)


def D_bands (l : List Int) (t : Int) : Prop := (∀ x ∈ l, 0 ≤ x ∧ x ≤ 400) ∧ (1 ≤ (l.length : Int) ∧ (l.length : Int) ≤ 20) ∧ 0 ≤ t ∧ t ≤ 400
instance (l : List Int) (t : Int) : Decidable (D_bands l t) := by unfold D_bands; infer_instance

theorem L_sd {p q : Prop} [Decidable p] [Decidable q] (h : p ↔ q) : some (decide p) = some (decide q) := by rw [decide_eq_decide.mpr h]

theorem L_sf {q : Prop} [Decidable q] (h : ¬ q) : some false = some (decide q) := by rw [decide_eq_false h]

theorem L_in (a b c : Int) : spec_l00In.f a b c = some (decide (b ≤ a ∧ a ≤ c)) := by
  unfold spec_l00In.f
  split
  · exact L_sd (by omega)
  · exact L_sf (by omega)

theorem L_specDensity (a : Int) : spec_l02Density.f a = some (decide (0 ≤ a ∧ a ≤ 400)) := by unfold spec_l02Density.f; rw [L_in]; rfl

theorem L_readLoop (l : List Int) (t : Int) (hn : l.length ≤ 140737488351232) (d : Nat) : ∀ (k : Nat) (i : Int), 0 ≤ i → i + d = l.length → d < k →
    spec_l05Read.l0 k l t i = some (decide ((∀ x ∈ l.drop i.toNat, 0 ≤ x ∧ x ≤ 400) ∧ (1 ≤ (l.length : Int) ∧ (l.length : Int) ≤ 20) ∧ 0 ≤ t ∧ t ≤ 400)) := by
  induction d with
  | zero =>
    intro k i h0 hd hk
    obtain ⟨k, rfl⟩ : ∃ m, k = m + 1 := ⟨k - 1, by omega⟩
    simp only [spec_l05Read.l0, L_in, L_specDensity, Option.bind_some, decide_eq_true_eq]
    rw [if_neg (by omega), List.drop_eq_nil_of_le (by omega)]
    split
    · exact L_sd (by simp; omega)
    · exact L_sf (by simp; omega)
  | succ d ih =>
    intro k i h0 hd hk
    obtain ⟨k, rfl⟩ : ∃ m, k = m + 1 := ⟨k - 1, by omega⟩
    obtain ⟨hi, e⟩ := L_rdGet (l := l) (i := i) h0 (by omega)
    simp only [spec_l05Read.l0, L_specDensity, Option.bind_some, decide_eq_true_eq]
    rw [if_pos (by omega), if_pos h0, L_w (x := i + 1) (by omega), List.drop_eq_getElem_cons hi, ← e]
    split
    · rename_i hx
      rw [ih k (i + 1) (by omega) (by omega) (by omega), show (i + 1).toNat = i.toNat + 1 by omega]
      exact L_sd (by simp [hx])
    · rename_i hx
      exact L_sf (fun h => hx (h.1 _ (by simp)))

theorem L_specBands (l : List Int) (t : Int) (hn : l.length ≤ 140737488351232) {k : Nat} (hk : l.length < k) : spec_l05Read.f k l t = some (decide (D_bands l t)) := by
  unfold spec_l05Read.f
  rw [L_readLoop l t hn l.length k 0 (by omega) (by omega) hk]
  exact L_sd (by unfold D_bands; simp)

theorem L_within (a b c : Int) : impl_within.f a b c = some (decide (b ≤ a ∧ a ≤ c)) := by
  unfold impl_within.f
  split
  · exact L_sd (by omega)
  · exact L_sf (by omega)

theorem L_isDensity (a : Int) : impl_isDensity.f a = some (decide (0 ≤ a ∧ a ≤ 400)) := by unfold impl_isDensity.f; rw [L_within]; rfl

theorem L_idxAnyOn {α : Type} (q : α → Option Bool) (p : α → Bool) : ∀ (l : List α) (i : Int), (∀ x ∈ l, q x = some (p x)) → 0 ≤ i → ∃ r, D_idx q l i = some r ∧ (l.any p = false → r = -1) ∧ (l.any p = true → 0 ≤ r)
  | [], i, _, hi => ⟨-1, rfl, fun _ => rfl, fun h => by simp at h⟩
  | x :: t, i, h, hi => by
    simp only [D_idx, h x (by simp), Option.bind_some]
    by_cases hx : p x = true
    · rw [if_pos hx]
      exact ⟨i, rfl, fun h => by simp [hx] at h, fun _ => hi⟩
    · rw [if_neg hx]
      obtain ⟨r, h1, h2, h3⟩ := L_idxAnyOn q p t (i + 1) (fun y hy => h y (by simp [hy])) (by omega)
      refine ⟨r, h1, fun h => h2 (by simpa [hx] using h), fun h => h3 (by simpa [hx] using h)⟩

theorem L_anyIff {α : Type} (P : α → Prop) [DecidablePred P] (l : List α) (r : Int) (h2 : l.any (fun x => !decide (P x)) = false → r = -1) (h3 : l.any (fun x => !decide (P x)) = true → 0 ≤ r) [Decidable (∀ x ∈ l, P x)] :
    decide (0 ≤ r) = !decide (∀ x ∈ l, P x) := by
  by_cases h : ∀ x ∈ l, P x
  · have e : l.any (fun x => !decide (P x)) = false := by rw [List.any_eq_false]; intro x hx; simp [h x hx]
    rw [h2 e, decide_eq_true h]
    rfl
  · have e : l.any (fun x => !decide (P x)) = true := by
      rw [List.any_eq_true]
      obtain ⟨x, hx⟩ := Classical.not_forall.1 h
      obtain ⟨hx, hh⟩ := Classical.not_imp.1 hx
      exact ⟨x, hx, by simp only [Bool.not_eq_true', decide_eq_false_iff_not]; exact hh⟩
    rw [decide_eq_false h, decide_eq_true (h3 e)]
    rfl


theorem L_anyDense (l : List Int) : slices_ContainsFunc_int64_int64.f l 111 = some (!decide (∀ x ∈ l, 0 ≤ x ∧ x ≤ 400)) := by
  unfold slices_ContainsFunc_int64_int64.f slices_IndexFunc_int64_int64.f
  rw [if_pos rfl]
  obtain ⟨r, h1, h2, h3⟩ := L_idxAnyOn impl_areBands_1.f (fun x => !decide (0 ≤ x ∧ x ≤ 400)) l 0 (fun x _ => by unfold impl_areBands_1.f; rw [L_isDensity]; rfl) (by omega)
  rw [h1]
  simp only [Option.bind_some]
  rw [L_anyIff (fun x : Int => 0 ≤ x ∧ x ≤ 400) l r h2 h3]

theorem L_implBands (l : List Int) (t : Int) : impl_areBands.f l t = some (decide (D_bands l t)) := by
  unfold impl_areBands.f impl_length_int64.f
  simp only [Option.bind_some]
  rw [L_within, L_isDensity, L_anyDense]
  simp only [Option.bind_some, decide_eq_true_eq]
  unfold D_bands
  split
  · split
    · rename_i h1 h2
      simp only [Bool.not_not]
      exact L_sd ⟨fun h => ⟨h, h1, h2⟩, fun h => h.1⟩
    · rename_i h2
      exact L_sf (fun h => h2 h.2.2)
  · rename_i h1
    exact L_sf (fun h => h1 h.2.1)

theorem L_implSize {a : Int} (h : -9223372036854775807 ≤ a ∧ a ≤ 9223372036854775807) : impl_size.f a = some (if a < 0 then -a else a) := by
  unfold impl_size.f; rw [L_w (x := -a) (by omega)]; congr 1; unfold mx; omega

theorem L_specSize {a : Int} (h : -9223372036854775807 ≤ a ∧ a ≤ 9223372036854775807) : spec_l01Size.f a = some (if a < 0 then -a else a) := by
  unfold spec_l01Size.f; split
  · rw [L_w (by omega)]
  · rfl

theorem L_nearLoops (l : List Int) (t : Int) (hb : D_bands l t) (d : Nat) : ∀ (k k' : Nat) (b i : Int), 0 ≤ b → b < l.length → 0 ≤ i → i + d = l.length → d < k → d < k' →
    ∃ r, spec_NearestBand.l0 k l t b i = some (r, rd l r - t, 0) ∧ impl_NearestBand.l0 k' l t b l (l.length : Int) i = some (r, rd l r - t, 0) := by
  have hbb := hb
  unfold D_bands at hbb
  have hin : ∀ i : Int, 0 ≤ i → i < l.length → 0 ≤ rd l i ∧ rd l i ≤ 400 := fun i h0 h1 => by
    obtain ⟨hi, e⟩ := L_rdGet (l := l) (i := i) h0 h1
    rw [e]; exact hbb.1 _ (List.getElem_mem hi)
  induction d with
  | zero =>
    intro k k' b i hb0 hb1 h0 hd hk hk'
    obtain ⟨k, rfl⟩ : ∃ m, k = m + 1 := ⟨k - 1, by omega⟩
    obtain ⟨k', rfl⟩ : ∃ m, k' = m + 1 := ⟨k' - 1, by omega⟩
    have := hin b hb0 hb1
    refine ⟨b, ?_, ?_⟩
    · simp only [spec_NearestBand.l0]; rw [if_neg (by omega), if_pos hb0, if_pos hb1, L_w (by omega)]
    · simp only [impl_NearestBand.l0]; rw [if_neg (by omega), if_pos hb0, if_pos hb1, L_w (by omega)]
  | succ d ih =>
    intro k k' b i hb0 hb1 h0 hd hk hk'
    obtain ⟨k, rfl⟩ : ∃ m, k = m + 1 := ⟨k - 1, by omega⟩
    obtain ⟨k', rfl⟩ : ∃ m, k' = m + 1 := ⟨k' - 1, by omega⟩
    have h1 := hin b hb0 hb1
    have h2 := hin i h0 (by omega)
    simp only [spec_NearestBand.l0, impl_NearestBand.l0]
    rw [if_pos (by omega), if_pos h0, if_pos (by omega), if_pos h0, if_pos (by omega), L_w (x := rd l i - t) (by omega), L_w (x := rd l b - t) (by omega), L_w (x := i + 1) (by omega), L_specSize (by omega), L_specSize (by omega), L_implSize (by omega), L_implSize (by omega)]
    simp only [Option.bind_some]
    rw [if_pos hb0, if_pos hb1, if_pos hb0, if_pos hb1]
    by_cases h : (if rd l i - t < 0 then -(rd l i - t) else rd l i - t) < (if rd l b - t < 0 then -(rd l b - t) else rd l b - t)
    · rw [if_pos h, if_pos h]
      exact ih k k' i (i + 1) h0 (by omega) (by omega) (by omega) (by omega) (by omega)
    · rw [if_neg h, if_neg h]
      exact ih k k' b (i + 1) hb0 hb1 (by omega) (by omega) (by omega) (by omega)

theorem L_nearest (l : List Int) (t : Int) (hn : l.length ≤ 1048576) {k : Nat} (hk : l.length + 3 ≤ k) : ∃ r, spec_NearestBand.f k l t = some r ∧ impl_NearestBand.f k l t = some r := by
  unfold spec_NearestBand.f impl_NearestBand.f
  rw [L_specBands l t (by omega) (by omega), L_implBands]
  simp only [Option.bind_some, decide_eq_true_eq]
  by_cases h : D_bands l t
  · rw [if_pos h, if_pos h]
    have hb := h
    unfold D_bands at hb
    obtain ⟨k, rfl⟩ : ∃ m, k = m + 1 := ⟨k - 1, by omega⟩
    have hin : ∀ i : Int, 0 ≤ i → i < l.length → 0 ≤ rd l i ∧ rd l i ≤ 400 := fun i h0 h1 => by
      obtain ⟨hi, e⟩ := L_rdGet (l := l) (i := i) h0 h1
      rw [e]; exact hb.1 _ (List.getElem_mem hi)
    have h0 := hin 0 (by omega) (by omega)
    have e1 : impl_NearestBand.l0 (k + 1) l t 0 l (l.length : Int) 0 = impl_NearestBand.l0 k l t 0 l (l.length : Int) 1 := by
      rw [impl_NearestBand.l0]
      rw [if_pos (by omega), if_pos (by omega), if_pos (by omega), L_w (x := rd l 0 - t) (by omega), L_w (x := (0 : Int) + 1) (by omega), L_implSize (by omega)]
      simp only [Option.bind_some]
      rw [if_pos (by omega), if_pos (by omega), if_neg (by omega)]
      rfl
    obtain ⟨r, a1, a2⟩ := L_nearLoops l t h (l.length - 1) (k + 1) k 0 1 (by omega) (by omega) (by omega) (by omega) (by omega) (by omega)
    exact ⟨_, a1, by rw [e1, a2]⟩
  · rw [if_neg h, if_neg h]; exact ⟨_, rfl, rfl⟩

theorem L_eqI (a : List Int) (hn : a.length ≤ 140737488351232) (d : Nat) : ∀ (k : Nat) (i : Int), 0 ≤ i → i + d = a.length → d < k → laws_eqInt64S.l0 k a a i = some true := by
  induction d with
  | zero =>
    intro k i h0 hd hk
    obtain ⟨k, rfl⟩ : ∃ m, k = m + 1 := ⟨k - 1, by omega⟩
    simp only [laws_eqInt64S.l0]; rw [if_neg (by omega)]
  | succ d ih =>
    intro k i h0 hd hk
    obtain ⟨k, rfl⟩ : ∃ m, k = m + 1 := ⟨k - 1, by omega⟩
    simp only [laws_eqInt64S.l0]; rw [if_pos (by omega), if_pos h0, L_w (x := i + 1) (by omega)]
    simp only [if_true]
    rw [if_pos (by omega)]
    exact ih k (i + 1) (by omega) (by omega) (by omega)

theorem L_eqInt64S (a : List Int) (hn : a.length ≤ 140737488351232) {k : Nat} (hk : a.length < k) : laws_eqInt64S.f k a a = some true := by
  unfold laws_eqInt64S.f; rw [if_pos rfl]; exact L_eqI a hn a.length k 0 (by omega) (by omega) hk

theorem FnExactNearestBand : ∀ (l0 : List Int) (a1 : Int), (∀ x ∈ l0, -9223372036854775808 ≤ x ∧ x ≤ 9223372036854775807) → l0.length * 8 ≤ 140737488351232 → -9223372036854775808 ≤ a1 → a1 ≤ 9223372036854775807 → ∃ k, laws_FnExactNearestBand.f k l0 a1 = some true := by
  intro l t _ hl ht ht'
  refine ⟨l.length + 10, ?_⟩
  unfold laws_FnExactNearestBand.f
  by_cases h : (l.length : Int) > 1048576
  · rw [if_pos h]
  · rw [if_neg h, L_toInt64S l (by omega) (by omega)]
    obtain ⟨r, e1, e2⟩ := L_nearest l t (by omega) (k := l.length + 10) (by omega)
    simp only [Option.bind_some]
    rw [e1, e2]
    simp only [Option.bind_some, if_true, bne_self_eq_false]
    simp only [laws_FnExactNearestBand.j0, Bool.false_eq_true, if_false]
    rw [L_toInt64S l (by omega) (by omega)]
    simp only [Option.bind_some]
    rw [L_eqInt64S l (by omega) (by omega)]
    simp

end Go.Proofs.Ytcplikffpmihpaa.Pure
