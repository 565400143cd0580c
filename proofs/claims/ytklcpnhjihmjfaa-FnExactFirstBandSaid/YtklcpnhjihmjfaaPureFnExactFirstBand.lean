/- The plain law of FnExactFirstBand: the printed function of the law answers true for all arguments within their kinds' bounds. No condition besides. -/
import Derived.Test.YtklcpnhjihmjfaaQx19
namespace Go.Proofs.Ytklcpnhjihmjfaa.Pure
open Go.RowKit Go.Proofs.Ytklcpnhjihmjfaa.Q Go.Proofs.YtklcpnhjihmjfaaW.PrintWords Go.Proofs.YtklcpnhjihmjfaaW.PrintLast Go.Proofs.YtklcpnhjihmjfaaW.PrintMore
set_option linter.unusedVariables false
set_option linter.unusedSimpArgs false
theorem L_rdGet {l : List Int} {i : Int} (h0 : 0 ≤ i) (h : i < l.length) : ∃ hi : i.toNat < l.length, rd l i = l[i.toNat]'hi :=
  ⟨by omega, by unfold rd; rw [List.getD_eq_getElem?_getD, List.getElem?_eq_getElem (by omega)]; rfl⟩

theorem L_w {x : Int} (h : -9223372036854775808 ≤ x ∧ x ≤ 9223372036854775807) : wrap64 x = x := by unfold wrap64; omega

theorem L_toI (l : List Int) (hn : l.length ≤ 140737488351232) (d : Nat) : ∀ (k : Nat) (out : List Int) (i : Int), out.length = l.length → 0 ≤ i → i + d = l.length → d < k → out.take i.toNat = l.take i.toNat → laws_toInt64S.l0 k l out i = some l := by
  induction d with
  | zero =>
    intro k out i ho h0 hd hk ht
    obtain ⟨k, rfl⟩ : ∃ m, k = m + 1 := ⟨k - 1, by omega⟩
    simp only [laws_toInt64S.l0]; rw [if_neg (by omega)]
    rw [List.take_of_length_le (by omega), List.take_of_length_le (by omega)] at ht
    rw [ht]
  | succ d ih =>
    intro k out i ho h0 hd hk ht
    obtain ⟨k, rfl⟩ : ∃ m, k = m + 1 := ⟨k - 1, by omega⟩
    obtain ⟨hi, e⟩ := L_rdGet (l := l) (i := i) h0 (by omega)
    simp only [laws_toInt64S.l0]; rw [if_pos (by omega), if_pos h0, if_pos (by omega), L_w (x := i + 1) (by omega)]
    refine ih k _ (i + 1) (by simpa using ho) (by omega) (by omega) (by omega) ?_
    rw [show (i + 1).toNat = i.toNat + 1 by omega, List.take_succ_eq_append_getElem (by simp; omega), List.take_succ_eq_append_getElem hi, List.getElem_set_self, List.take_set_of_le (by omega), ht, e]

theorem L_toInt64S (l : List Int) (hn : l.length ≤ 1048576) {k : Nat} (hk : l.length < k) : laws_toInt64S.f k l = some l := by
  unfold laws_toInt64S.f
  rw [if_pos (by omega), if_pos (by omega)]
  exact L_toI l (by omega) l.length k _ 0 (by simp) (by omega) (by omega) hk (by simp)


def D_bands (l : List Int) (t : Int) : Prop := (∀ x ∈ l, 0 ≤ x ∧ x ≤ 400) ∧ (1 ≤ (l.length : Int) ∧ (l.length : Int) ≤ 20) ∧ 0 ≤ t ∧ t ≤ 400
instance (l : List Int) (t : Int) : Decidable (D_bands l t) := by unfold D_bands; infer_instance

theorem L_sd {p q : Prop} [Decidable p] [Decidable q] (h : p ↔ q) : some (decide p) = some (decide q) := by rw [decide_eq_decide.mpr h]

theorem L_sf {q : Prop} [Decidable q] (h : ¬ q) : some false = some (decide q) := by rw [decide_eq_false h]

theorem L_in (a b c : Int) : spec_l00In.f a b c = some (decide (b ≤ a ∧ a ≤ c)) := by
  unfold spec_l00In.f
  split
  · exact L_sd (by omega)
  · exact L_sf (by omega)

theorem L_specDensity (a : Int) : spec_l02Density.f a = some (decide (0 ≤ a ∧ a ≤ 400)) := by unfold spec_l02Density.f; rw [L_in]; rfl

theorem L_readLoop (l : List Int) (t : Int) (hn : l.length ≤ 140737488351232) (d : Nat) : ∀ (k : Nat) (i : Int), 0 ≤ i → i + d = l.length → d < k →
    spec_l05Read.l0 k l t i = some (decide ((∀ x ∈ l.drop i.toNat, 0 ≤ x ∧ x ≤ 400) ∧ (1 ≤ (l.length : Int) ∧ (l.length : Int) ≤ 20) ∧ 0 ≤ t ∧ t ≤ 400)) := by
  induction d with
  | zero =>
    intro k i h0 hd hk
    obtain ⟨k, rfl⟩ : ∃ m, k = m + 1 := ⟨k - 1, by omega⟩
    simp only [spec_l05Read.l0, L_in, L_specDensity, Option.bind_some, decide_eq_true_eq]
    rw [if_neg (by omega), List.drop_eq_nil_of_le (by omega)]
    split
    · exact L_sd (by simp; omega)
    · exact L_sf (by simp; omega)
  | succ d ih =>
    intro k i h0 hd hk
    obtain ⟨k, rfl⟩ : ∃ m, k = m + 1 := ⟨k - 1, by omega⟩
    obtain ⟨hi, e⟩ := L_rdGet (l := l) (i := i) h0 (by omega)
    simp only [spec_l05Read.l0, L_specDensity, Option.bind_some, decide_eq_true_eq]
    rw [if_pos (by omega), if_pos h0, L_w (x := i + 1) (by omega), List.drop_eq_getElem_cons hi, ← e]
    split
    · rename_i hx
      rw [ih k (i + 1) (by omega) (by omega) (by omega), show (i + 1).toNat = i.toNat + 1 by omega]
      exact L_sd (by simp [hx])
    · rename_i hx
      exact L_sf (fun h => hx (h.1 _ (by simp)))

theorem L_specBands (l : List Int) (t : Int) (hn : l.length ≤ 140737488351232) {k : Nat} (hk : l.length < k) : spec_l05Read.f k l t = some (decide (D_bands l t)) := by
  unfold spec_l05Read.f
  rw [L_readLoop l t hn l.length k 0 (by omega) (by omega) hk]
  exact L_sd (by unfold D_bands; simp)

theorem L_within (a b c : Int) : impl_within.f a b c = some (decide (b ≤ a ∧ a ≤ c)) := by
  unfold impl_within.f
  split
  · exact L_sd (by omega)
  · exact L_sf (by omega)

theorem L_isDensity (a : Int) : impl_isDensity.f a = some (decide (0 ≤ a ∧ a ≤ 400)) := by unfold impl_isDensity.f; rw [L_within]; rfl

theorem L_idxAnyOn {α : Type} (q : α → Option Bool) (p : α → Bool) : ∀ (l : List α) (i : Int), (∀ x ∈ l, q x = some (p x)) → 0 ≤ i → ∃ r, D_idx q l i = some r ∧ (l.any p = false → r = -1) ∧ (l.any p = true → 0 ≤ r)
  | [], i, _, hi => ⟨-1, rfl, fun _ => rfl, fun h => by simp at h⟩
  | x :: t, i, h, hi => by
    simp only [D_idx, h x (by simp), Option.bind_some]
    by_cases hx : p x = true
    · rw [if_pos hx]
      exact ⟨i, rfl, fun h => by simp [hx] at h, fun _ => hi⟩
    · rw [if_neg hx]
      obtain ⟨r, h1, h2, h3⟩ := L_idxAnyOn q p t (i + 1) (fun y hy => h y (by simp [hy])) (by omega)
      refine ⟨r, h1, fun h => h2 (by simpa [hx] using h), fun h => h3 (by simpa [hx] using h)⟩

theorem L_anyIff {α : Type} (P : α → Prop) [DecidablePred P] (l : List α) (r : Int) (h2 : l.any (fun x => !decide (P x)) = false → r = -1) (h3 : l.any (fun x => !decide (P x)) = true → 0 ≤ r) [Decidable (∀ x ∈ l, P x)] :
    decide (0 ≤ r) = !decide (∀ x ∈ l, P x) := by
  by_cases h : ∀ x ∈ l, P x
  · have e : l.any (fun x => !decide (P x)) = false := by rw [List.any_eq_false]; intro x hx; simp [h x hx]
    rw [h2 e, decide_eq_true h]
    rfl
  · have e : l.any (fun x => !decide (P x)) = true := by
      rw [List.any_eq_true]
      obtain ⟨x, hx⟩ := Classical.not_forall.1 h
      obtain ⟨hx, hh⟩ := Classical.not_imp.1 hx
      exact ⟨x, hx, by simp only [Bool.not_eq_true', decide_eq_false_iff_not]; exact hh⟩
    rw [decide_eq_false h, decide_eq_true (h3 e)]
    rfl


theorem L_anyDense (l : List Int) : slices_ContainsFunc_int64_int64.f l 93 = some (!decide (∀ x ∈ l, 0 ≤ x ∧ x ≤ 400)) := by
  unfold slices_ContainsFunc_int64_int64.f slices_IndexFunc_int64_int64.f
  rw [if_pos rfl]
  obtain ⟨r, h1, h2, h3⟩ := L_idxAnyOn impl_areBands_1.f (fun x => !decide (0 ≤ x ∧ x ≤ 400)) l 0 (fun x _ => by unfold impl_areBands_1.f; rw [L_isDensity]; rfl) (by omega)
  rw [h1]
  simp only [Option.bind_some]
  rw [L_anyIff (fun x : Int => 0 ≤ x ∧ x ≤ 400) l r h2 h3]

theorem L_implBands (l : List Int) (t : Int) : impl_areBands.f l t = some (decide (D_bands l t)) := by
  unfold impl_areBands.f impl_length_int64.f
  simp only [Option.bind_some]
  rw [L_within, L_isDensity, L_anyDense]
  simp only [Option.bind_some, decide_eq_true_eq]
  unfold D_bands
  split
  · split
    · rename_i h1 h2
      simp only [Bool.not_not]
      exact L_sd ⟨fun h => ⟨h, h1, h2⟩, fun h => h.1⟩
    · rename_i h2
      exact L_sf (fun h => h2 h.2.2)
  · rename_i h1
    exact L_sf (fun h => h1 h.2.1)

theorem L_firstLoop (l : List Int) (t : Int) (hn : l.length ≤ 1048576) (d : Nat) : ∀ (k : Nat) (i : Int), 0 ≤ i → i + d = l.length → d < k →
    ∃ r, D_idx (fun d => some (decide (d ≥ t))) (l.drop i.toNat) i = some r ∧ spec_FirstBand.l0 k l t i = some (if r < 0 then (0, 6) else (r, 0)) := by
  induction d with
  | zero =>
    intro k i h0 hd hk
    obtain ⟨k, rfl⟩ : ∃ m, k = m + 1 := ⟨k - 1, by omega⟩
    refine ⟨-1, by rw [List.drop_eq_nil_of_le (by omega)]; rfl, ?_⟩
    simp only [spec_FirstBand.l0]; rw [if_neg (by omega), if_pos (by omega)]
  | succ d ih =>
    intro k i h0 hd hk
    obtain ⟨k, rfl⟩ : ∃ m, k = m + 1 := ⟨k - 1, by omega⟩
    obtain ⟨hi, e⟩ := L_rdGet (l := l) (i := i) h0 (by omega)
    simp only [spec_FirstBand.l0]
    rw [if_pos (by omega), if_pos h0, List.drop_eq_getElem_cons hi, ← e]
    simp only [D_idx, Option.bind_some, decide_eq_true_eq]
    by_cases h : rd l i ≥ t
    · rw [if_pos h, if_pos h]; exact ⟨i, rfl, by rw [if_neg (by omega)]⟩
    · rw [if_neg h, if_neg h, L_w (x := i + 1) (by omega)]
      have := ih k (i + 1) (by omega) (by omega) (by omega)
      rwa [show (i + 1).toNat = i.toNat + 1 by omega] at this

theorem L_first (l : List Int) (t : Int) (hn : l.length ≤ 1048576) {k : Nat} (hk : l.length < k) : ∃ r, spec_FirstBand.f k l t = some r ∧ impl_FirstBand.f l t = some r := by
  unfold spec_FirstBand.f impl_FirstBand.f
  rw [L_specBands l t (by omega) hk, L_implBands]
  simp only [Option.bind_some, decide_eq_true_eq]
  split
  · obtain ⟨r, h1, h2⟩ := L_firstLoop l t hn l.length k 0 (by omega) (by omega) hk
    simp only [Int.toNat_zero, List.drop_zero] at h1
    rw [h1, h2]
    simp only [Option.bind_some]
    split <;> exact ⟨_, rfl, rfl⟩
  · exact ⟨_, rfl, rfl⟩


theorem L_eqI (a : List Int) (hn : a.length ≤ 140737488351232) (d : Nat) : ∀ (k : Nat) (i : Int), 0 ≤ i → i + d = a.length → d < k → laws_eqInt64S.l0 k a a i = some true := by
  induction d with
  | zero =>
    intro k i h0 hd hk
    obtain ⟨k, rfl⟩ : ∃ m, k = m + 1 := ⟨k - 1, by omega⟩
    simp only [laws_eqInt64S.l0]; rw [if_neg (by omega)]
  | succ d ih =>
    intro k i h0 hd hk
    obtain ⟨k, rfl⟩ : ∃ m, k = m + 1 := ⟨k - 1, by omega⟩
    simp only [laws_eqInt64S.l0]; rw [if_pos (by omega), if_pos h0, L_w (x := i + 1) (by omega)]
    simp only [if_true]
    rw [if_pos (by omega)]
    exact ih k (i + 1) (by omega) (by omega) (by omega)

theorem L_eqInt64S (a : List Int) (hn : a.length ≤ 140737488351232) {k : Nat} (hk : a.length < k) : laws_eqInt64S.f k a a = some true := by
  unfold laws_eqInt64S.f; rw [if_pos rfl]; exact L_eqI a hn a.length k 0 (by omega) (by omega) hk

theorem FnExactFirstBand : ∀ (l0 : List Int) (a1 : Int), (∀ x ∈ l0, -9223372036854775808 ≤ x ∧ x ≤ 9223372036854775807) → l0.length * 8 ≤ 140737488351232 → -9223372036854775808 ≤ a1 → a1 ≤ 9223372036854775807 → ∃ k, laws_FnExactFirstBand.f k l0 a1 = some true := by
  intro l t _ hl ht ht'
  refine ⟨l.length + 10, ?_⟩
  unfold laws_FnExactFirstBand.f
  by_cases h : (l.length : Int) > 1048576
  · rw [if_pos h]
  · rw [if_neg h, L_toInt64S l (by omega) (by omega)]
    obtain ⟨r, e1, e2⟩ := L_first l t (by omega) (k := l.length + 10) (by omega)
    simp only [Option.bind_some]
    rw [e1, e2]
    simp only [Option.bind_some, if_true, bne_self_eq_false]
    simp only [laws_FnExactFirstBand.j0, Bool.false_eq_true, if_false]
    rw [L_toInt64S l (by omega) (by omega)]
    simp only [Option.bind_some]
    rw [L_eqInt64S l (by omega) (by omega)]
    simp

end Go.Proofs.Ytklcpnhjihmjfaa.Pure
