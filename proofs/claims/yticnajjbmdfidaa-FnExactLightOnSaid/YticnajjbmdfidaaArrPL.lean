-- Plain lemmas on steps and times, for the texts on arrays.
import Derived.Test.YticnajjbmdfidaaQx4
import Derived.Test.YticnajjbmdfidaaQx5
import Derived.Test.YticnajjbmdfidaaQx6
import Derived.Test.YticnajjbmdfidaaQx7
import Derived.Test.YticnajjbmdfidaaQx8
import Derived.Test.YticnajjbmdfidaaQx10
import Derived.Test.YticnajjbmdfidaaArrKit
namespace Go.Proofs.Yticnajjbmdfidaa.PL
open Go.RowKit Go.Proofs.Yticnajjbmdfidaa.Q Go.Proofs.YticnajjbmdfidaaW.PrintWords Go.Proofs.YticnajjbmdfidaaW.PrintLast Go.Proofs.YticnajjbmdfidaaW.PrintMore
set_option linter.unusedVariables false
set_option linter.unusedSimpArgs false
def D_i8s (l : List S76) : Prop := ∀ x ∈ l, -128 ≤ x.f1 ∧ x.f1 ≤ 127

def D_steps (l : List S76) : Prop := (∀ x ∈ l, 0 ≤ x.f1 ∧ x.f1 ≤ 36) ∧ l.length ≤ 30
instance (l : List S76) : Decidable (D_steps l) := by unfold D_steps; infer_instance

theorem L_sd {p q : Prop} [Decidable p] [Decidable q] (h : p ↔ q) : some (decide p) = some (decide q) := by rw [decide_eq_decide.mpr h]

theorem L_rdS {l : List S76} {i : Int} (h0 : 0 ≤ i) (h : i < l.length) : ∃ hi : i.toNat < l.length, rd_T76 l i = l[i.toNat]'hi :=
  ⟨by omega, by unfold rd_T76; rw [List.getD_eq_getElem?_getD, List.getElem?_eq_getElem (by omega)]; rfl⟩

theorem L_sf {q : Prop} [Decidable q] (h : ¬ q) : some false = some (decide q) := by rw [decide_eq_false h]

theorem L_in (a b c : Int) : spec_l00In.f a b c = some (decide (b ≤ a ∧ a ≤ c)) := by
  unfold spec_l00In.f
  split
  · exact L_sd (by omega)
  · exact L_sf (by omega)

theorem L_specThirds (a : Int) : spec_l03Thirds.f a = some (decide (0 ≤ a ∧ a ≤ 36)) := by
  unfold spec_l03Thirds.f; rw [L_in]; rfl

theorem L_w {x : Int} (h : -9223372036854775808 ≤ x ∧ x ≤ 9223372036854775807) : wrap64 x = x := by unfold wrap64; omega

theorem L_stepsOkLoop (l : List S76) (h8 : D_i8s l) (hn : l.length ≤ 140737488351232) (d : Nat) : ∀ (k : Nat) (i : Int), 0 ≤ i → i + d = l.length → d < k →
    spec_l03Ok.l0 k l i = some (decide ((∀ x ∈ l.drop i.toNat, 0 ≤ x.f1 ∧ x.f1 ≤ 36) ∧ l.length ≤ 30)) := by
  induction d with
  | zero =>
    intro k i h0 hd hk
    obtain ⟨k, rfl⟩ : ∃ m, k = m + 1 := ⟨k - 1, by omega⟩
    simp only [spec_l03Ok.l0]
    rw [if_neg (by omega), List.drop_eq_nil_of_le (by omega)]
    exact L_sd (by simp; omega)
  | succ d ih =>
    intro k i h0 hd hk
    obtain ⟨k, rfl⟩ : ∃ m, k = m + 1 := ⟨k - 1, by omega⟩
    obtain ⟨hi, e⟩ := L_rdS (l := l) (i := i) h0 (by omega)
    have h1 := h8 _ (List.getElem_mem hi)
    rw [← e] at h1
    simp only [spec_l03Ok.l0, L_specThirds, Option.bind_some, decide_eq_true_eq]
    rw [if_pos (by omega), if_pos h0, L_w (x := i + 1) (by omega), L_w (x := (rd_T76 l i).f1) (by omega), List.drop_eq_getElem_cons hi, ← e]
    split
    · rename_i hx
      rw [ih k (i + 1) (by omega) (by omega) (by omega), show (i + 1).toNat = i.toNat + 1 by omega]
      exact L_sd (by simp [hx])
    · rename_i hx
      exact L_sf (fun h => hx (h.1 _ (by simp)))

theorem L_stepsOk (l : List S76) (h8 : D_i8s l) (hn : l.length ≤ 140737488351232) {k : Nat} (hk : l.length < k) : spec_l03Ok.f k l = some (decide (D_steps l)) := by
  unfold spec_l03Ok.f
  rw [L_stepsOkLoop l h8 hn l.length k 0 (by omega) (by omega) hk]
  exact L_sd (by unfold D_steps; simp)

theorem L_idxAnyOn {α : Type} (q : α → Option Bool) (p : α → Bool) : ∀ (l : List α) (i : Int), (∀ x ∈ l, q x = some (p x)) → 0 ≤ i → ∃ r, D_idx q l i = some r ∧ (l.any p = false → r = -1) ∧ (l.any p = true → 0 ≤ r)
  | [], i, _, hi => ⟨-1, rfl, fun _ => rfl, fun h => by simp at h⟩
  | x :: t, i, h, hi => by
    simp only [D_idx, h x (by simp), Option.bind_some]
    by_cases hx : p x = true
    · rw [if_pos hx]
      exact ⟨i, rfl, fun h => by simp [hx] at h, fun _ => hi⟩
    · rw [if_neg hx]
      obtain ⟨r, h1, h2, h3⟩ := L_idxAnyOn q p t (i + 1) (fun y hy => h y (by simp [hy])) (by omega)
      refine ⟨r, h1, fun h => h2 (by simpa [hx] using h), fun h => h3 (by simpa [hx] using h)⟩

theorem L_within (a b c : Int) : impl_within.f a b c = some (decide (b ≤ a ∧ a ≤ c)) := by
  unfold impl_within.f
  split
  · exact L_sd (by omega)
  · exact L_sf (by omega)

theorem L_areThirds (a : Int) : impl_areThirds.f a = some (decide (0 ≤ a ∧ a ≤ 36)) := by
  unfold impl_areThirds.f; rw [L_within]; rfl

theorem L_anyIff {α : Type} (P : α → Prop) [DecidablePred P] (l : List α) (r : Int) (h2 : l.any (fun x => !decide (P x)) = false → r = -1) (h3 : l.any (fun x => !decide (P x)) = true → 0 ≤ r) [Decidable (∀ x ∈ l, P x)] :
    decide (0 ≤ r) = !decide (∀ x ∈ l, P x) := by
  by_cases h : ∀ x ∈ l, P x
  · have e : l.any (fun x => !decide (P x)) = false := by rw [List.any_eq_false]; intro x hx; simp [h x hx]
    rw [h2 e, decide_eq_true h]
    rfl
  · have e : l.any (fun x => !decide (P x)) = true := by
      rw [List.any_eq_true]
      obtain ⟨x, hx⟩ := Classical.not_forall.1 h
      obtain ⟨hx, hh⟩ := Classical.not_imp.1 hx
      exact ⟨x, hx, by simp only [Bool.not_eq_true', decide_eq_false_iff_not]; exact hh⟩
    rw [decide_eq_false h, decide_eq_true (h3 e)]
    rfl


theorem L_implSteps (l : List S76) (h8 : D_i8s l) : impl_ValidSteps.f l = some (decide (D_steps l)) := by
  unfold impl_ValidSteps.f impl_Step_95.f impl_Step_61.f
  rw [if_pos rfl]
  obtain ⟨r, h1, h2, h3⟩ := L_idxAnyOn (fun x : S76 => impl_ValidSteps_1.f x.f0 x.f1) (fun x => !decide (0 ≤ x.f1 ∧ x.f1 ≤ 36)) l 0 (fun x hx => by
    have := h8 x hx
    unfold impl_ValidSteps_1.f
    rw [L_w (x := x.f1) (by omega), L_areThirds]; rfl) (by omega)
  rw [h1]
  simp only [Option.bind_some]
  rw [L_anyIff (fun x : S76 => 0 ≤ x.f1 ∧ x.f1 ≤ 36) l r h2 h3]
  unfold D_steps
  by_cases hl : l.length ≤ 30
  · first
    | rw [if_pos (by omega)]
      simp only [Bool.not_not]
      exact L_sd ⟨fun h => ⟨h, hl⟩, fun h => h.1⟩
    | simp [hl]
  · first
    | rw [if_neg (by omega)]
      exact L_sf (fun h => hl h.2)
    | simp [hl]

theorem L_szSteps (l : List S82) (h : l.length * 16 ≤ 140737488351232) : laws_szStepS.f l 1048576 = some (if 1048576 < (l.length : Int) then (-1 : Int) else (1048576 : Int) - (l.length : Int)) := by
  unfold laws_szStepS.f; rw [L_w (by omega)]
  by_cases h : 1048576 < (l.length : Int)
  · rw [if_pos (by omega), if_pos h]
  · rw [if_neg (by omega), if_neg h]

def D_step (x : S82) : S76 := ⟨x.f0, x.f1⟩

theorem L_rdL {l : List S82} {i : Int} (h0 : 0 ≤ i) (h : i < l.length) : ∃ hi : i.toNat < l.length, rd_T82 l i = l[i.toNat]'hi :=
  ⟨by omega, by unfold rd_T82; rw [List.getD_eq_getElem?_getD, List.getElem?_eq_getElem (by omega)]; rfl⟩

theorem L_toStepsLoop (l : List S82) (hn : l.length ≤ 1048576) (d : Nat) : ∀ (k : Nat) (out : List S76) (i : Int), out.length = l.length → 0 ≤ i → i + d = l.length → d < k → out.take i.toNat = (l.map D_step).take i.toNat → laws_toStepS.l0 k l out i = some (l.map D_step) := by
  induction d with
  | zero =>
    intro k out i ho h0 hd hk ht
    obtain ⟨k, rfl⟩ : ∃ m, k = m + 1 := ⟨k - 1, by omega⟩
    simp only [laws_toStepS.l0]; rw [if_neg (by omega)]
    rw [List.take_of_length_le (by omega), List.take_of_length_le (by simp; omega)] at ht
    rw [ht]
  | succ d ih =>
    intro k out i ho h0 hd hk ht
    obtain ⟨k, rfl⟩ : ∃ m, k = m + 1 := ⟨k - 1, by omega⟩
    obtain ⟨hi, e⟩ := L_rdL (l := l) (i := i) h0 (by omega)
    simp only [laws_toStepS.l0, laws_toStep.f, Option.bind_some]; rw [if_pos (by omega), if_pos h0, if_pos (by omega), L_w (x := i + 1) (by omega)]
    refine ih k _ (i + 1) (by simpa using ho) (by omega) (by omega) (by omega) ?_
    rw [show (i + 1).toNat = i.toNat + 1 by omega, List.take_succ_eq_append_getElem (by simp; omega), List.take_succ_eq_append_getElem (by simpa using hi), List.getElem_set_self, List.take_set_of_le (by omega), ht, List.getElem_map, e]
    rfl

theorem L_toSteps (l : List S82) (hn : l.length ≤ 1048576) {k : Nat} (hk : l.length < k) : laws_toStepS.f k l = some (l.map D_step) := by
  unfold laws_toStepS.f
  rw [if_pos (by omega), if_pos (by omega)]
  exact L_toStepsLoop l hn l.length k _ 0 (by simp) (by omega) (by omega) hk (by simp)

theorem L_eqSteps (l : List S76) (hn : l.length ≤ 140737488351232) {k : Nat} (hk : l.length < k) : laws_eqStepS.f k l l = some true := by
  have H : ∀ (d : Nat) (k : Nat) (i : Int), 0 ≤ i → i + d = l.length → d < k → laws_eqStepS.l0 k l l i = some true := by
    intro d
    induction d with
    | zero =>
      intro k i h0 hd hk
      obtain ⟨k, rfl⟩ : ∃ m, k = m + 1 := ⟨k - 1, by omega⟩
      simp only [laws_eqStepS.l0]; rw [if_neg (by omega)]
    | succ d ih =>
      intro k i h0 hd hk
      obtain ⟨k, rfl⟩ : ∃ m, k = m + 1 := ⟨k - 1, by omega⟩
      simp only [laws_eqStepS.l0, laws_eqStep.f, if_true, Option.bind_some]; rw [if_pos (by omega), if_pos h0, if_pos (by omega), L_w (x := i + 1) (by omega)]
      exact ih k (i + 1) (by omega) (by omega) (by omega)
  unfold laws_eqStepS.f; rw [if_pos rfl]; exact H l.length k 0 (by omega) (by omega) hk

theorem L_map8 (l : List S82) (h : ∀ x ∈ l, 0 ≤ x.f0 ∧ x.f0 ≤ 18446744073709551615 ∧ -128 ≤ x.f1 ∧ x.f1 ≤ 127) : D_i8s (l.map D_step) := by
  intro x hx
  simp only [List.mem_map] at hx
  obtain ⟨y, hy, rfl⟩ := hx
  have := h y hy
  unfold D_step
  dsimp only
  omega

def D_inFrom (s : Int) : Nat → Int → Int
  | 0, i => i
  | d + 1, i => if tmv (i + 1) ≤ s then D_inFrom s d (i + 1) else i

def D_in (s : Int) : Int := D_inFrom s 37 (-1)

theorem L_specTimeAll : ∀ n : Nat, n < 37 → spec_l01Time.f n = some (tmv n) := by decide +kernel

theorem L_specTime {k : Int} (h : 0 ≤ k ∧ k ≤ 36) : spec_l01Time.f k = some (tmv k) := by
  obtain ⟨n, rfl⟩ : ∃ n : Nat, k = n := ⟨k.toNat, by omega⟩
  exact L_specTimeAll n (by omega)

theorem L_specInFrom (s : Int) (d : Nat) : ∀ (k : Nat) (i : Int), -1 ≤ i → i + d = 36 → d < k → spec_l01In.l0 k s i = some (D_inFrom s d i) := by
  induction d with
  | zero =>
    intro k i h0 hd hk
    obtain ⟨k, rfl⟩ : ∃ m, k = m + 1 := ⟨k - 1, by omega⟩
    simp only [spec_l01In.l0, D_inFrom]; rw [if_neg (by omega)]
  | succ d ih =>
    intro k i h0 hd hk
    obtain ⟨k, rfl⟩ : ∃ m, k = m + 1 := ⟨k - 1, by omega⟩
    simp only [spec_l01In.l0, D_inFrom]
    rw [if_pos (by omega), L_w (x := i + 1) (by omega), L_specTime (by omega)]
    simp only [Option.bind_some]
    by_cases h : tmv (i + 1) ≤ s
    · rw [if_pos h, if_pos h]; exact ih k (i + 1) (by omega) (by omega) (by omega)
    · rw [if_neg h, if_neg h]

theorem L_specIn (s : Int) {k : Nat} (hk : 38 ≤ k) : spec_l01In.f k s = some (D_in s) :=
  L_specInFrom s 37 k (-1) (by omega) (by omega) (by omega)

theorem L_inFrom (s : Int) (d : Nat) : ∀ i : Int, -1 ≤ i → i + d = 36 → (0 ≤ i → tmv i ≤ s) → i ≤ D_inFrom s d i ∧ D_inFrom s d i ≤ 36 ∧ (0 ≤ D_inFrom s d i → tmv (D_inFrom s d i) ≤ s) ∧ (D_inFrom s d i < 36 → s < tmv (D_inFrom s d i + 1)) := by
  induction d with
  | zero => intro i h0 hd h; unfold D_inFrom; exact ⟨by omega, by omega, h, fun h => by omega⟩
  | succ d ih =>
    intro i h0 hd h
    unfold D_inFrom
    split
    · rename_i hle
      obtain ⟨h1, h2, h3, h4⟩ := ih (i + 1) (by omega) (by omega) (fun _ => hle)
      exact ⟨by omega, h2, h3, h4⟩
    · rename_i hgt
      exact ⟨by omega, by omega, h, fun _ => by omega⟩

theorem L_inSpec (s : Int) : -1 ≤ D_in s ∧ D_in s ≤ 36 ∧ (0 ≤ D_in s → tmv (D_in s) ≤ s) ∧ (D_in s < 36 → s < tmv (D_in s + 1)) :=
  L_inFrom s 37 (-1) (by omega) (by omega) (fun h => by omega)

theorem L_tmvMonoAll : ∀ i : Nat, i < 37 → ∀ j : Nat, j < 37 → i ≤ j → tmv i ≤ tmv j := by decide +kernel

theorem L_tmvMono {i j : Int} (h0 : 0 ≤ i) (h : i ≤ j) (h1 : j ≤ 36) : tmv i ≤ tmv j := by
  obtain ⟨n, rfl⟩ : ∃ n : Nat, i = n := ⟨i.toNat, by omega⟩
  obtain ⟨m, rfl⟩ : ∃ m : Nat, j = m := ⟨j.toNat, by omega⟩
  exact L_tmvMonoAll n (by omega) m (by omega) (by omega)

theorem L_inUnique {s k : Int} (h0 : -1 ≤ k ∧ k ≤ 36) (h1 : 0 ≤ k → tmv k ≤ s) (h2 : k < 36 → s < tmv (k + 1)) : k = D_in s := by
  obtain ⟨a, b, c, d⟩ := L_inSpec s
  rcases Int.lt_trichotomy k (D_in s) with h | h | h
  · have e := L_tmvMono (i := k + 1) (j := D_in s) (by omega) (by omega) b
    have := h2 (by omega)
    have := c (by omega)
    omega
  · exact h
  · have e := L_tmvMono (i := D_in s + 1) (j := k) (by omega) (by omega) h0.2
    have := d (by omega)
    have := h1 (by omega)
    omega

theorem L_tmvLtAll : ∀ i : Nat, i < 36 → tmv i < tmv ((i + 1 : Nat) : Int) := by decide +kernel

theorem L_tmvLt {i j : Int} (h0 : 0 ≤ i) (h : i < j) (h1 : j ≤ 36) : tmv i < tmv j := by
  obtain ⟨n, rfl⟩ : ∃ n : Nat, i = n := ⟨i.toNat, by omega⟩
  have a := L_tmvLtAll n (by omega)
  have b := L_tmvMono (i := ((n + 1 : Nat) : Int)) (j := j) (by omega) (by omega) h1
  omega

theorem L_timeOf {k : Int} (h : 0 ≤ k ∧ k ≤ 36) : impl_timeOf.f k = some (tmv k) := by
  unfold impl_timeOf.f; rw [if_pos h.1, if_pos h.2]

theorem L_w8 {x : Int} (h : -128 ≤ x ∧ x ≤ 127) : IntKind.i8.wrap x = x := by simp [IntKind.wrap, IntKind.bits, IntKind.signed]; omega

theorem L_wu {x : Int} (h : 0 ≤ x ∧ x ≤ 18446744073709551615) : IntKind.u64.wrap x = x := by simp [IntKind.wrap, IntKind.bits, IntKind.signed]; omega

theorem L_rdNe {l : List S76} {i j : Int} (hi : 0 ≤ i) (hj : 0 ≤ j) (h : i ≠ j) (x : S76) : rd_T76 (l.set i.toNat x) j = rd_T76 l j := by
  unfold rd_T76
  rw [List.getD_eq_getElem?_getD, List.getD_eq_getElem?_getD, List.getElem?_set_ne (by omega)]

theorem L_rdSet {l : List S76} {i : Int} (hi : 0 ≤ i) (h : i < l.length) (x : S76) : rd_T76 (l.set i.toNat x) i = x := by
  unfold rd_T76
  rw [List.getD_eq_getElem?_getD, List.getElem?_set_self (by omega)]; rfl

-- L_stepsOk L_implSteps L_szSteps L_toSteps L_eqSteps L_map8 L_specIn L_inSpec L_inUnique L_tmvMono L_tmvLt L_areThirds L_specThirds L_timeOf L_specTime L_w L_w8 L_wu L_rdS L_rdNe L_rdSet
end Go.Proofs.Yticnajjbmdfidaa.PL
