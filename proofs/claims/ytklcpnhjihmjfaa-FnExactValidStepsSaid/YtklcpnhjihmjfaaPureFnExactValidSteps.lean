/- The plain law of FnExactValidSteps: the printed function of the law answers true for all arguments within their kinds' bounds. No condition besides. -/
import Derived.Test.YtklcpnhjihmjfaaQx21
namespace Go.Proofs.Ytklcpnhjihmjfaa.Pure
open Go.RowKit Go.Proofs.Ytklcpnhjihmjfaa.Q Go.Proofs.YtklcpnhjihmjfaaW.PrintWords Go.Proofs.YtklcpnhjihmjfaaW.PrintLast Go.Proofs.YtklcpnhjihmjfaaW.PrintMore
set_option linter.unusedVariables false
set_option linter.unusedSimpArgs false
def D_i8s (l : List S90) : Prop := ∀ x ∈ l, -128 ≤ x.f1 ∧ x.f1 ≤ 127

def D_step (x : S92) : S90 := ⟨x.f0, x.f1⟩

theorem L_map8 (l : List S92) (h : ∀ x ∈ l, 0 ≤ x.f0 ∧ x.f0 ≤ 18446744073709551615 ∧ -128 ≤ x.f1 ∧ x.f1 ≤ 127) : D_i8s (l.map D_step) := by
  intro x hx
  simp only [List.mem_map] at hx
  obtain ⟨y, hy, rfl⟩ := hx
  have := h y hy
  unfold D_step
  dsimp only
  omega


theorem L_w {x : Int} (h : -9223372036854775808 ≤ x ∧ x ≤ 9223372036854775807) : wrap64 x = x := by unfold wrap64; omega

theorem L_szSteps (l : List S92) (h : l.length * 16 ≤ 140737488351232) : laws_szStepS.f l 1048576 = some (if 1048576 < (l.length : Int) then (-1 : Int) else (1048576 : Int) - (l.length : Int)) := by
  unfold laws_szStepS.f; rw [L_w (by omega)]
  by_cases h : 1048576 < (l.length : Int)
  · rw [if_pos (by omega), if_pos h]
  · rw [if_neg (by omega), if_neg h]

theorem L_rdL {l : List S92} {i : Int} (h0 : 0 ≤ i) (h : i < l.length) : ∃ hi : i.toNat < l.length, rd_T92 l i = l[i.toNat]'hi :=
  ⟨by omega, by unfold rd_T92; rw [List.getD_eq_getElem?_getD, List.getElem?_eq_getElem (by omega)]; rfl⟩

theorem L_toStepsLoop (l : List S92) (hn : l.length ≤ 1048576) (d : Nat) : ∀ (k : Nat) (out : List S90) (i : Int), out.length = l.length → 0 ≤ i → i + d = l.length → d < k → out.take i.toNat = (l.map D_step).take i.toNat → laws_toStepS.l0 k l out i = some (l.map D_step) := by
  induction d with
  | zero =>
    intro k out i ho h0 hd hk ht
    obtain ⟨k, rfl⟩ : ∃ m, k = m + 1 := ⟨k - 1, by omega⟩
    simp only [laws_toStepS.l0]; rw [if_neg (by omega)]
    rw [List.take_of_length_le (by omega), List.take_of_length_le (by simp; omega)] at ht
    rw [ht]
  | succ d ih =>
    intro k out i ho h0 hd hk ht
    obtain ⟨k, rfl⟩ : ∃ m, k = m + 1 := ⟨k - 1, by omega⟩
    obtain ⟨hi, e⟩ := L_rdL (l := l) (i := i) h0 (by omega)
    simp only [laws_toStepS.l0, laws_toStep.f, Option.bind_some]; rw [if_pos (by omega), if_pos h0, if_pos (by omega), L_w (x := i + 1) (by omega)]
    refine ih k _ (i + 1) (by simpa using ho) (by omega) (by omega) (by omega) ?_
    rw [show (i + 1).toNat = i.toNat + 1 by omega, List.take_succ_eq_append_getElem (by simp; omega), List.take_succ_eq_append_getElem (by simpa using hi), List.getElem_set_self, List.take_set_of_le (by omega), ht, List.getElem_map, e]
    rfl

theorem L_toSteps (l : List S92) (hn : l.length ≤ 1048576) {k : Nat} (hk : l.length < k) : laws_toStepS.f k l = some (l.map D_step) := by
  unfold laws_toStepS.f
  rw [if_pos (by omega), if_pos (by omega)]
  exact L_toStepsLoop l hn l.length k _ 0 (by simp) (by omega) (by omega) hk (by simp)

def D_steps (l : List S90) : Prop := (∀ x ∈ l, 0 ≤ x.f1 ∧ x.f1 ≤ 36) ∧ l.length ≤ 30
instance (l : List S90) : Decidable (D_steps l) := by unfold D_steps; infer_instance

theorem L_sd {p q : Prop} [Decidable p] [Decidable q] (h : p ↔ q) : some (decide p) = some (decide q) := by rw [decide_eq_decide.mpr h]

theorem L_rdS {l : List S90} {i : Int} (h0 : 0 ≤ i) (h : i < l.length) : ∃ hi : i.toNat < l.length, rd_T90 l i = l[i.toNat]'hi :=
  ⟨by omega, by unfold rd_T90; rw [List.getD_eq_getElem?_getD, List.getElem?_eq_getElem (by omega)]; rfl⟩

theorem L_sf {q : Prop} [Decidable q] (h : ¬ q) : some false = some (decide q) := by rw [decide_eq_false h]

theorem L_in (a b c : Int) : spec_l00In.f a b c = some (decide (b ≤ a ∧ a ≤ c)) := by
  unfold spec_l00In.f
  split
  · exact L_sd (by omega)
  · exact L_sf (by omega)

theorem L_specThirds (a : Int) : spec_l03Thirds.f a = some (decide (0 ≤ a ∧ a ≤ 36)) := by
  unfold spec_l03Thirds.f; rw [L_in]; rfl

theorem L_stepsOkLoop (l : List S90) (h8 : D_i8s l) (hn : l.length ≤ 140737488351232) (d : Nat) : ∀ (k : Nat) (i : Int), 0 ≤ i → i + d = l.length → d < k →
    spec_l03Ok.l0 k l i = some (decide ((∀ x ∈ l.drop i.toNat, 0 ≤ x.f1 ∧ x.f1 ≤ 36) ∧ l.length ≤ 30)) := by
  induction d with
  | zero =>
    intro k i h0 hd hk
    obtain ⟨k, rfl⟩ : ∃ m, k = m + 1 := ⟨k - 1, by omega⟩
    simp only [spec_l03Ok.l0]
    rw [if_neg (by omega), List.drop_eq_nil_of_le (by omega)]
    exact L_sd (by simp; omega)
  | succ d ih =>
    intro k i h0 hd hk
    obtain ⟨k, rfl⟩ : ∃ m, k = m + 1 := ⟨k - 1, by omega⟩
    obtain ⟨hi, e⟩ := L_rdS (l := l) (i := i) h0 (by omega)
    have h1 := h8 _ (List.getElem_mem hi)
    rw [← e] at h1
    simp only [spec_l03Ok.l0, L_specThirds, Option.bind_some, decide_eq_true_eq]
    rw [if_pos (by omega), if_pos h0, L_w (x := i + 1) (by omega), L_w (x := (rd_T90 l i).f1) (by omega), List.drop_eq_getElem_cons hi, ← e]
    split
    · rename_i hx
      rw [ih k (i + 1) (by omega) (by omega) (by omega), show (i + 1).toNat = i.toNat + 1 by omega]
      exact L_sd (by simp [hx])
    · rename_i hx
      exact L_sf (fun h => hx (h.1 _ (by simp)))

theorem L_stepsOk (l : List S90) (h8 : D_i8s l) (hn : l.length ≤ 140737488351232) {k : Nat} (hk : l.length < k) : spec_l03Ok.f k l = some (decide (D_steps l)) := by
  unfold spec_l03Ok.f
  rw [L_stepsOkLoop l h8 hn l.length k 0 (by omega) (by omega) hk]
  exact L_sd (by unfold D_steps; simp)

theorem L_idxAnyOn {α : Type} (q : α → Option Bool) (p : α → Bool) : ∀ (l : List α) (i : Int), (∀ x ∈ l, q x = some (p x)) → 0 ≤ i → ∃ r, D_idx q l i = some r ∧ (l.any p = false → r = -1) ∧ (l.any p = true → 0 ≤ r)
  | [], i, _, hi => ⟨-1, rfl, fun _ => rfl, fun h => by simp at h⟩
  | x :: t, i, h, hi => by
    simp only [D_idx, h x (by simp), Option.bind_some]
    by_cases hx : p x = true
    · rw [if_pos hx]
      exact ⟨i, rfl, fun h => by simp [hx] at h, fun _ => hi⟩
    · rw [if_neg hx]
      obtain ⟨r, h1, h2, h3⟩ := L_idxAnyOn q p t (i + 1) (fun y hy => h y (by simp [hy])) (by omega)
      refine ⟨r, h1, fun h => h2 (by simpa [hx] using h), fun h => h3 (by simpa [hx] using h)⟩

theorem L_within (a b c : Int) : impl_within.f a b c = some (decide (b ≤ a ∧ a ≤ c)) := by
  unfold impl_within.f
  split
  · exact L_sd (by omega)
  · exact L_sf (by omega)

theorem L_areThirds (a : Int) : impl_areThirds.f a = some (decide (0 ≤ a ∧ a ≤ 36)) := by
  unfold impl_areThirds.f; rw [L_within]; rfl

theorem L_anyIff {α : Type} (P : α → Prop) [DecidablePred P] (l : List α) (r : Int) (h2 : l.any (fun x => !decide (P x)) = false → r = -1) (h3 : l.any (fun x => !decide (P x)) = true → 0 ≤ r) [Decidable (∀ x ∈ l, P x)] :
    decide (0 ≤ r) = !decide (∀ x ∈ l, P x) := by
  by_cases h : ∀ x ∈ l, P x
  · have e : l.any (fun x => !decide (P x)) = false := by rw [List.any_eq_false]; intro x hx; simp [h x hx]
    rw [h2 e, decide_eq_true h]
    rfl
  · have e : l.any (fun x => !decide (P x)) = true := by
      rw [List.any_eq_true]
      obtain ⟨x, hx⟩ := Classical.not_forall.1 h
      obtain ⟨hx, hh⟩ := Classical.not_imp.1 hx
      exact ⟨x, hx, by simp only [Bool.not_eq_true', decide_eq_false_iff_not]; exact hh⟩
    rw [decide_eq_false h, decide_eq_true (h3 e)]
    rfl


theorem L_implSteps (l : List S90) (h8 : D_i8s l) : impl_ValidSteps.f l = some (decide (D_steps l)) := by
  unfold impl_ValidSteps.f impl_Step_78.f impl_Step_94.f
  rw [if_pos rfl]
  obtain ⟨r, h1, h2, h3⟩ := L_idxAnyOn (fun x : S90 => impl_ValidSteps_1.f x.f0 x.f1) (fun x => !decide (0 ≤ x.f1 ∧ x.f1 ≤ 36)) l 0 (fun x hx => by
    have := h8 x hx
    unfold impl_ValidSteps_1.f
    rw [L_w (x := x.f1) (by omega), L_areThirds]; rfl) (by omega)
  rw [h1]
  simp only [Option.bind_some]
  rw [L_anyIff (fun x : S90 => 0 ≤ x.f1 ∧ x.f1 ≤ 36) l r h2 h3]
  unfold D_steps
  by_cases hl : l.length ≤ 30
  · first
    | rw [if_pos (by omega)]
      simp only [Bool.not_not]
      exact L_sd ⟨fun h => ⟨h, hl⟩, fun h => h.1⟩
    | simp [hl]
  · first
    | rw [if_neg (by omega)]
      exact L_sf (fun h => hl h.2)
    | simp [hl]

theorem L_eqSteps (l : List S90) (hn : l.length ≤ 140737488351232) {k : Nat} (hk : l.length < k) : laws_eqStepS.f k l l = some true := by
  have H : ∀ (d : Nat) (k : Nat) (i : Int), 0 ≤ i → i + d = l.length → d < k → laws_eqStepS.l0 k l l i = some true := by
    intro d
    induction d with
    | zero =>
      intro k i h0 hd hk
      obtain ⟨k, rfl⟩ : ∃ m, k = m + 1 := ⟨k - 1, by omega⟩
      simp only [laws_eqStepS.l0]; rw [if_neg (by omega)]
    | succ d ih =>
      intro k i h0 hd hk
      obtain ⟨k, rfl⟩ : ∃ m, k = m + 1 := ⟨k - 1, by omega⟩
      simp only [laws_eqStepS.l0, laws_eqStep.f, if_true, Option.bind_some]; rw [if_pos (by omega), if_pos h0, if_pos (by omega), L_w (x := i + 1) (by omega)]
      exact ih k (i + 1) (by omega) (by omega) (by omega)
  unfold laws_eqStepS.f; rw [if_pos rfl]; exact H l.length k 0 (by omega) (by omega) hk

theorem FnExactValidSteps : ∀ (l0 : List S92), (∀ x ∈ l0, 0 ≤ x.f0 ∧ x.f0 ≤ 18446744073709551615 ∧ -128 ≤ x.f1 ∧ x.f1 ≤ 127) → l0.length * 16 ≤ 140737488351232 → ∃ k, laws_FnExactValidSteps.f k l0 = some true := by
  intro l h8 hl
  have h8' := L_map8 l h8
  refine ⟨l.length + 10, ?_⟩
  unfold laws_FnExactValidSteps.f
  rw [L_szSteps l hl]
  simp only [Option.bind_some]
  by_cases h : 1048576 < (l.length : Int)
  · rw [if_pos h]; rfl
  · rw [if_neg h, if_neg (by omega), L_toSteps l (by omega) (by omega)]
    simp only [Option.bind_some]
    unfold spec_ValidSteps.f
    rw [L_stepsOk _ h8' (by simp <;> omega) (by simp <;> omega), L_implSteps _ h8']
    simp only [Option.bind_some, bne_self_eq_false, Bool.false_eq_true, if_false]
    rw [L_eqSteps _ (by simp <;> omega) (by simp <;> omega)]
    simp

end Go.Proofs.Ytklcpnhjihmjfaa.Pure
