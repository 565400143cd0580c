/- The plain law of FnExactMirrorSteps: the printed function of the law answers true for all arguments within their kinds' bounds. No condition besides. -/
import Derived.Test.YtiaaibiodolcgaaQx26
namespace Go.Proofs.Ytiaaibiodolcgaa.Pure
open Go.RowKit Go.Proofs.Ytiaaibiodolcgaa.Q Go.Proofs.YtiaaibiodolcgaaW.PrintWords Go.Proofs.YtiaaibiodolcgaaW.PrintLast Go.Proofs.YtiaaibiodolcgaaW.PrintMore
set_option linter.unusedVariables false
set_option linter.unusedSimpArgs false
def D_i8s (l : List S88) : Prop := ∀ x ∈ l, -128 ≤ x.f1 ∧ x.f1 ≤ 127

def D_step (x : S90) : S88 := ⟨x.f0, x.f1⟩

theorem L_map8 (l : List S90) (h : ∀ x ∈ l, 0 ≤ x.f0 ∧ x.f0 ≤ 18446744073709551615 ∧ -128 ≤ x.f1 ∧ x.f1 ≤ 127) : D_i8s (l.map D_step) := by
  intro x hx
  simp only [List.mem_map] at hx
  obtain ⟨y, hy, rfl⟩ := hx
  have := h y hy
  unfold D_step
  dsimp only
  omega

def D_steps (l : List S88) : Prop := (∀ x ∈ l, 0 ≤ x.f1 ∧ x.f1 ≤ 36) ∧ l.length ≤ 30
instance (l : List S88) : Decidable (D_steps l) := by unfold D_steps; infer_instance

def D_mirror (m : Int) : Nat → Int → Int → Int
  | 0, a, _ => a
  | d + 1, a, x => D_mirror m d (if (Go.bits .and .u64 (shr .u64 m x) 1) = 1 then Go.bits .or .u64 a (shl .u64 1 (x - x % 8 + 7 - x % 8)) else a) (x + 1)

def D_mirStep (x : S88) : S88 := ⟨D_mirror x.f0 64 0 0, x.f1⟩

theorem L_sd {p q : Prop} [Decidable p] [Decidable q] (h : p ↔ q) : some (decide p) = some (decide q) := by rw [decide_eq_decide.mpr h]

theorem L_rdS {l : List S88} {i : Int} (h0 : 0 ≤ i) (h : i < l.length) : ∃ hi : i.toNat < l.length, rd_T88 l i = l[i.toNat]'hi :=
  ⟨by omega, by unfold rd_T88; rw [List.getD_eq_getElem?_getD, List.getElem?_eq_getElem (by omega)]; rfl⟩

theorem L_sf {q : Prop} [Decidable q] (h : ¬ q) : some false = some (decide q) := by rw [decide_eq_false h]

theorem L_in (a b c : Int) : spec_l00In.f a b c = some (decide (b ≤ a ∧ a ≤ c)) := by
  unfold spec_l00In.f
  split
  · exact L_sd (by omega)
  · exact L_sf (by omega)

theorem L_specThirds (a : Int) : spec_l03Thirds.f a = some (decide (0 ≤ a ∧ a ≤ 36)) := by
  unfold spec_l03Thirds.f; rw [L_in]; rfl

theorem L_w {x : Int} (h : -9223372036854775808 ≤ x ∧ x ≤ 9223372036854775807) : wrap64 x = x := by unfold wrap64; omega

theorem L_stepsOkLoop (l : List S88) (h8 : D_i8s l) (hn : l.length ≤ 140737488351232) (d : Nat) : ∀ (k : Nat) (i : Int), 0 ≤ i → i + d = l.length → d < k →
    spec_l03Ok.l0 k l i = some (decide ((∀ x ∈ l.drop i.toNat, 0 ≤ x.f1 ∧ x.f1 ≤ 36) ∧ l.length ≤ 30)) := by
  induction d with
  | zero =>
    intro k i h0 hd hk
    obtain ⟨k, rfl⟩ : ∃ m, k = m + 1 := ⟨k - 1, by omega⟩
    simp only [spec_l03Ok.l0]
    rw [if_neg (by omega), List.drop_eq_nil_of_le (by omega)]
    exact L_sd (by simp; omega)
  | succ d ih =>
    intro k i h0 hd hk
    obtain ⟨k, rfl⟩ : ∃ m, k = m + 1 := ⟨k - 1, by omega⟩
    obtain ⟨hi, e⟩ := L_rdS (l := l) (i := i) h0 (by omega)
    have h1 := h8 _ (List.getElem_mem hi)
    rw [← e] at h1
    simp only [spec_l03Ok.l0, L_specThirds, Option.bind_some, decide_eq_true_eq]
    rw [if_pos (by omega), if_pos h0, L_w (x := i + 1) (by omega), L_w (x := (rd_T88 l i).f1) (by omega), List.drop_eq_getElem_cons hi, ← e]
    split
    · rename_i hx
      rw [ih k (i + 1) (by omega) (by omega) (by omega), show (i + 1).toNat = i.toNat + 1 by omega]
      exact L_sd (by simp [hx])
    · rename_i hx
      exact L_sf (fun h => hx (h.1 _ (by simp)))

theorem L_stepsOk (l : List S88) (h8 : D_i8s l) (hn : l.length ≤ 140737488351232) {k : Nat} (hk : l.length < k) : spec_l03Ok.f k l = some (decide (D_steps l)) := by
  unfold spec_l03Ok.f
  rw [L_stepsOkLoop l h8 hn l.length k 0 (by omega) (by omega) hk]
  exact L_sd (by unfold D_steps; simp)

theorem L_idxAnyOn {α : Type} (q : α → Option Bool) (p : α → Bool) : ∀ (l : List α) (i : Int), (∀ x ∈ l, q x = some (p x)) → 0 ≤ i → ∃ r, D_idx q l i = some r ∧ (l.any p = false → r = -1) ∧ (l.any p = true → 0 ≤ r)
  | [], i, _, hi => ⟨-1, rfl, fun _ => rfl, fun h => by simp at h⟩
  | x :: t, i, h, hi => by
    simp only [D_idx, h x (by simp), Option.bind_some]
    by_cases hx : p x = true
    · rw [if_pos hx]
      exact ⟨i, rfl, fun h => by simp [hx] at h, fun _ => hi⟩
    · rw [if_neg hx]
      obtain ⟨r, h1, h2, h3⟩ := L_idxAnyOn q p t (i + 1) (fun y hy => h y (by simp [hy])) (by omega)
      refine ⟨r, h1, fun h => h2 (by simpa [hx] using h), fun h => h3 (by simpa [hx] using h)⟩

theorem L_within (a b c : Int) : impl_within.f a b c = some (decide (b ≤ a ∧ a ≤ c)) := by
  unfold impl_within.f
  split
  · exact L_sd (by omega)
  · exact L_sf (by omega)

theorem L_areThirds (a : Int) : impl_areThirds.f a = some (decide (0 ≤ a ∧ a ≤ 36)) := by
  unfold impl_areThirds.f; rw [L_within]; rfl

theorem L_anyIff {α : Type} (P : α → Prop) [DecidablePred P] (l : List α) (r : Int) (h2 : l.any (fun x => !decide (P x)) = false → r = -1) (h3 : l.any (fun x => !decide (P x)) = true → 0 ≤ r) [Decidable (∀ x ∈ l, P x)] :
    decide (0 ≤ r) = !decide (∀ x ∈ l, P x) := by
  by_cases h : ∀ x ∈ l, P x
  · have e : l.any (fun x => !decide (P x)) = false := by rw [List.any_eq_false]; intro x hx; simp [h x hx]
    rw [h2 e, decide_eq_true h]
    rfl
  · have e : l.any (fun x => !decide (P x)) = true := by
      rw [List.any_eq_true]
      obtain ⟨x, hx⟩ := Classical.not_forall.1 h
      obtain ⟨hx, hh⟩ := Classical.not_imp.1 hx
      exact ⟨x, hx, by simp only [Bool.not_eq_true', decide_eq_false_iff_not]; exact hh⟩
    rw [decide_eq_false h, decide_eq_true (h3 e)]
    rfl


theorem L_implSteps (l : List S88) (h8 : D_i8s l) : impl_ValidSteps.f l = some (decide (D_steps l)) := by
  unfold impl_ValidSteps.f impl_Step_110.f impl_Step_71.f
  rw [if_pos rfl]
  obtain ⟨r, h1, h2, h3⟩ := L_idxAnyOn (fun x : S88 => impl_ValidSteps_1.f x.f0 x.f1) (fun x => !decide (0 ≤ x.f1 ∧ x.f1 ≤ 36)) l 0 (fun x hx => by
    have := h8 x hx
    unfold impl_ValidSteps_1.f
    rw [L_w (x := x.f1) (by omega), L_areThirds]; rfl) (by omega)
  rw [h1]
  simp only [Option.bind_some]
  rw [L_anyIff (fun x : S88 => 0 ≤ x.f1 ∧ x.f1 ≤ 36) l r h2 h3]
  unfold D_steps
  by_cases hl : l.length ≤ 30
  · first
    | rw [if_pos (by omega)]
      simp only [Bool.not_not]
      exact L_sd ⟨fun h => ⟨h, hl⟩, fun h => h.1⟩
    | simp [hl]
  · first
    | rw [if_neg (by omega)]
      exact L_sf (fun h => hl h.2)
    | simp [hl]

theorem L_wu {x : Int} (h : 0 ≤ x ∧ x ≤ 18446744073709551615) : IntKind.u64.wrap x = x := by simp [IntKind.wrap, IntKind.bits, IntKind.signed]; omega

theorem L_mirSpec (m : Int) (d : Nat) : ∀ (k : Nat) (a x : Int), 0 ≤ x → x + d = 64 → d < k → spec_l03Mirror.l0 k m a x = some (D_mirror m d a x) := by
  induction d with
  | zero =>
    intro k a x h0 hd hk
    obtain ⟨k, rfl⟩ : ∃ q, k = q + 1 := ⟨k - 1, by omega⟩
    simp only [spec_l03Mirror.l0, D_mirror]; rw [if_neg (by omega)]
  | succ d ih =>
    intro k a x h0 hd hk
    obtain ⟨k, rfl⟩ : ∃ q, k = q + 1 := ⟨k - 1, by omega⟩
    have e1 : Int.tdiv x 8 = x / 8 := Int.tdiv_eq_ediv_of_nonneg h0
    have e2 : Int.tmod x 8 = x % 8 := Int.tmod_eq_emod_of_nonneg h0
    simp only [spec_l03Mirror.l0, D_mirror]
    rw [e1, e2, L_wu (x := x) (by omega), L_w (x := x / 8) (by omega), L_w (x := x / 8 * 8) (by omega), L_w (x := x / 8 * 8 + 7) (by omega), L_w (x := x / 8 * 8 + 7 - x % 8) (by omega), L_w (x := x + 1) (by omega),
      L_wu (x := x / 8 * 8 + 7 - x % 8) (by omega), if_pos (by omega), if_pos h0, show x / 8 * 8 + 7 - x % 8 = x - x % 8 + 7 - x % 8 by omega]
    split
    · rw [if_pos (by omega), ih k _ (x + 1) (by omega) (by omega) (by omega)]
    · rw [ih k _ (x + 1) (by omega) (by omega) (by omega)]

theorem L_mirImpl (m f : Int) (o l : List S88) (n i : Int) (d : Nat) : ∀ (K k : Nat) (a x : Int), K = k + d + 1 → 0 ≤ x → x + d = 64 →
    impl_MirrorSteps.l1 K o a l n i x m f = if o.length < 8796093022208 then impl_MirrorSteps.l0 k (o ++ [(⟨D_mirror m d a x, f⟩ : S88)]) l n (wrap64 (i + 1)) else none := by
  induction d with
  | zero =>
    intro K k a x hK h0 hd
    obtain ⟨K, rfl⟩ : ∃ q, K = q + 1 := ⟨K - 1, by omega⟩
    obtain rfl : K = k := by omega
    simp only [impl_MirrorSteps.l1, D_mirror]; rw [if_neg (by omega)]
  | succ d ih =>
    intro K k a x hK h0 hd
    obtain ⟨K, rfl⟩ : ∃ q, K = q + 1 := ⟨K - 1, by omega⟩
    have e2 : Int.tmod x 8 = x % 8 := Int.tmod_eq_emod_of_nonneg h0
    simp only [impl_MirrorSteps.l1, impl_has.f, D_mirror]
    rw [e2, L_w (x := x - x % 8) (by omega), L_w (x := x - x % 8 + 8) (by omega), L_w (x := x - x % 8 + 8 - 1) (by omega), L_w (x := x - x % 8 + 8 - 1 - x % 8) (by omega), L_w (x := x + 1) (by omega),
      if_pos (show x < 64 by omega), if_pos h0, show x - x % 8 + 8 - 1 - x % 8 = x - x % 8 + 7 - x % 8 by omega]
    simp only [Option.bind_some, beq_iff_eq]
    split
    · rw [if_pos (by omega), ih K k _ (x + 1) (by omega) (by omega) (by omega)]
    · rw [ih K k _ (x + 1) (by omega) (by omega) (by omega)]

theorem L_mirLoops (l : List S88) (hn : l.length ≤ 30) (d : Nat) : ∀ (k : Nat) (o : List S88) (i : Int), 0 ≤ i → i + d = l.length → (o.length : Int) ≤ i → 66 * d + 66 ≤ k →
    spec_MirrorSteps.l0 k l o i = some (o ++ (l.drop i.toNat).map D_mirStep, 0) ∧ impl_MirrorSteps.l0 k o l (l.length : Int) i = some (o ++ (l.drop i.toNat).map D_mirStep, 0) := by
  induction d with
  | zero =>
    intro k o i h0 hd ho hk
    obtain ⟨k, rfl⟩ : ∃ m, k = m + 1 := ⟨k - 1, by omega⟩
    simp only [spec_MirrorSteps.l0, impl_MirrorSteps.l0]
    rw [if_neg (by omega), if_neg (by omega), List.drop_eq_nil_of_le (by omega)]; simp
  | succ d ih =>
    intro k o i h0 hd ho hk
    obtain ⟨k, rfl⟩ : ∃ m, k = m + 1 := ⟨k - 1, by omega⟩
    obtain ⟨hi, e⟩ := L_rdS (l := l) (i := i) h0 (by omega)
    have q : l.drop i.toNat = rd_T88 l i :: l.drop (i + 1).toNat := by rw [List.drop_eq_getElem_cons hi, e, show (i + 1).toNat = i.toNat + 1 by omega]
    constructor
    · simp only [spec_MirrorSteps.l0, spec_l03Mirror.f]
      rw [if_pos (by omega), if_pos h0, L_mirSpec _ 64 _ 0 0 (by omega) (by omega) (by omega)]
      simp only [Option.bind_some]
      rw [if_pos (by omega), L_w (x := i + 1) (by omega), (ih _ (o ++ [_]) (i + 1) (by omega) (by omega) (by simp; omega) (by omega)).1, q]
      simp [D_mirStep]
    · simp only [impl_MirrorSteps.l0]
      rw [if_pos (by omega), if_pos h0, if_pos (by omega), L_mirImpl _ _ o l _ i 64 k (k - 65) 0 0 (by omega) (by omega) (by omega)]
      rw [if_pos (by omega), L_w (x := i + 1) (by omega), (ih (k - 65) (o ++ [_]) (i + 1) (by omega) (by omega) (by simp; omega) (by omega)).2, q]
      simp [D_mirStep]

theorem L_mirSteps (l : List S88) (h8 : D_i8s l) (hn : l.length ≤ 140737488351232) : ∃ R c, R.length ≤ 30 ∧ ∀ k, l.length + 3000 ≤ k → spec_MirrorSteps.f k l = some (R, c) ∧ impl_MirrorSteps.f k l = some (R, c) := by
  by_cases h : D_steps l
  · have hl := h.2
    refine ⟨l.map D_mirStep, 0, by simpa using hl, fun k hk => ?_⟩
    unfold spec_MirrorSteps.f impl_MirrorSteps.f
    rw [L_stepsOk l h8 hn (by omega), L_implSteps l h8]
    simp only [Option.bind_some, decide_eq_true_eq]
    rw [if_pos h, if_pos h]
    obtain ⟨a, b⟩ := L_mirLoops l hl l.length k [] 0 (by omega) (by omega) (by simp) (by omega)
    rw [a, b]
    simp
  · refine ⟨[], 1, by simp, fun k hk => ?_⟩
    unfold spec_MirrorSteps.f impl_MirrorSteps.f
    rw [L_stepsOk l h8 hn (by omega), L_implSteps l h8]
    simp only [Option.bind_some, decide_eq_true_eq]
    rw [if_neg h, if_neg h]
    exact ⟨rfl, rfl⟩

theorem L_szSteps (l : List S90) (h : l.length * 16 ≤ 140737488351232) : laws_szStepS.f l 1048576 = some (if 1048576 < (l.length : Int) then (-1 : Int) else (1048576 : Int) - (l.length : Int)) := by
  unfold laws_szStepS.f; rw [L_w (by omega)]
  by_cases h : 1048576 < (l.length : Int)
  · rw [if_pos (by omega), if_pos h]
  · rw [if_neg (by omega), if_neg h]

theorem L_rdL {l : List S90} {i : Int} (h0 : 0 ≤ i) (h : i < l.length) : ∃ hi : i.toNat < l.length, rd_T90 l i = l[i.toNat]'hi :=
  ⟨by omega, by unfold rd_T90; rw [List.getD_eq_getElem?_getD, List.getElem?_eq_getElem (by omega)]; rfl⟩

theorem L_toStepsLoop (l : List S90) (hn : l.length ≤ 1048576) (d : Nat) : ∀ (k : Nat) (out : List S88) (i : Int), out.length = l.length → 0 ≤ i → i + d = l.length → d < k → out.take i.toNat = (l.map D_step).take i.toNat → laws_toStepS.l0 k l out i = some (l.map D_step) := by
  induction d with
  | zero =>
    intro k out i ho h0 hd hk ht
    obtain ⟨k, rfl⟩ : ∃ m, k = m + 1 := ⟨k - 1, by omega⟩
    simp only [laws_toStepS.l0]; rw [if_neg (by omega)]
    rw [List.take_of_length_le (by omega), List.take_of_length_le (by simp; omega)] at ht
    rw [ht]
  | succ d ih =>
    intro k out i ho h0 hd hk ht
    obtain ⟨k, rfl⟩ : ∃ m, k = m + 1 := ⟨k - 1, by omega⟩
    obtain ⟨hi, e⟩ := L_rdL (l := l) (i := i) h0 (by omega)
    simp only [laws_toStepS.l0, laws_toStep.f, Option.bind_some]; rw [if_pos (by omega), if_pos h0, if_pos (by omega), L_w (x := i + 1) (by omega)]
    refine ih k _ (i + 1) (by simpa using ho) (by omega) (by omega) (by omega) ?_
    rw [show (i + 1).toNat = i.toNat + 1 by omega, List.take_succ_eq_append_getElem (by simp; omega), List.take_succ_eq_append_getElem (by simpa using hi), List.getElem_set_self, List.take_set_of_le (by omega), ht, List.getElem_map, e]
    rfl

theorem L_toSteps (l : List S90) (hn : l.length ≤ 1048576) {k : Nat} (hk : l.length < k) : laws_toStepS.f k l = some (l.map D_step) := by
  unfold laws_toStepS.f
  rw [if_pos (by omega), if_pos (by omega)]
  exact L_toStepsLoop l hn l.length k _ 0 (by simp) (by omega) (by omega) hk (by simp)

theorem L_eqSteps (l : List S88) (hn : l.length ≤ 140737488351232) {k : Nat} (hk : l.length < k) : laws_eqStepS.f k l l = some true := by
  have H : ∀ (d : Nat) (k : Nat) (i : Int), 0 ≤ i → i + d = l.length → d < k → laws_eqStepS.l0 k l l i = some true := by
    intro d
    induction d with
    | zero =>
      intro k i h0 hd hk
      obtain ⟨k, rfl⟩ : ∃ m, k = m + 1 := ⟨k - 1, by omega⟩
      simp only [laws_eqStepS.l0]; rw [if_neg (by omega)]
    | succ d ih =>
      intro k i h0 hd hk
      obtain ⟨k, rfl⟩ : ∃ m, k = m + 1 := ⟨k - 1, by omega⟩
      simp only [laws_eqStepS.l0, laws_eqStep.f, if_true, Option.bind_some]; rw [if_pos (by omega), if_pos h0, if_pos (by omega), L_w (x := i + 1) (by omega)]
      exact ih k (i + 1) (by omega) (by omega) (by omega)
  unfold laws_eqStepS.f; rw [if_pos rfl]; exact H l.length k 0 (by omega) (by omega) hk

theorem L_rdNe {l : List S88} {i j : Int} (hi : 0 ≤ i) (hj : 0 ≤ j) (h : i ≠ j) (x : S88) : rd_T88 (l.set i.toNat x) j = rd_T88 l j := by
  unfold rd_T88
  rw [List.getD_eq_getElem?_getD, List.getD_eq_getElem?_getD, List.getElem?_set_ne (by omega)]

theorem L_rdSet {l : List S88} {i : Int} (hi : 0 ≤ i) (h : i < l.length) (x : S88) : rd_T88 (l.set i.toNat x) i = x := by
  unfold rd_T88
  rw [List.getD_eq_getElem?_getD, List.getElem?_set_self (by omega)]; rfl

theorem L_markSt (n : Nat) (hn : n ≤ 1048576) (d : Nat) : ∀ (k : Nat) (l : List S88) (v i : Int), l.length = n → 0 ≤ i → i + d = n → d < k → 0 ≤ v → v ≤ 1000000000 + 2 * i →
    ∃ l', laws_markStepS.l0 k l v i = some (v + 2 * d, l') ∧ l'.length = n ∧ (∀ j : Int, 0 ≤ j → j < i → rd_T88 l' j = rd_T88 l j) ∧
      (∀ j : Int, i ≤ j → j < n → (rd_T88 l' j).f0 = IntKind.u64.wrap (v + 2 * (j - i)) ∧ (rd_T88 l' j).f1 = IntKind.i8.wrap (v + 2 * (j - i) + 1)) := by
  induction d with
  | zero =>
    intro k l v i hl h0 hd hk hv hv2
    obtain ⟨k, rfl⟩ : ∃ m, k = m + 1 := ⟨k - 1, by omega⟩
    refine ⟨l, ?_, hl, fun _ _ _ => rfl, fun j h1 h2 => by omega⟩
    simp only [laws_markStepS.l0]; rw [if_neg (by omega)]; simp
  | succ d ih =>
    intro k l v i hl h0 hd hk hv hv2
    obtain ⟨k, rfl⟩ : ∃ m, k = m + 1 := ⟨k - 1, by omega⟩
    have key : ∀ y : List S88, y.length = n → (∀ j : Int, 0 ≤ j → j < i → rd_T88 y j = rd_T88 l j) → (rd_T88 y i).f0 = IntKind.u64.wrap v → (rd_T88 y i).f1 = IntKind.i8.wrap (v + 1) →
        ∃ l', laws_markStepS.l0 k y (v + 1 + 1) (i + 1) = some (v + 2 * ((d + 1 : Nat) : Int), l') ∧ l'.length = n ∧ (∀ j : Int, 0 ≤ j → j < i → rd_T88 l' j = rd_T88 l j) ∧
          (∀ j : Int, i ≤ j → j < n → (rd_T88 l' j).f0 = IntKind.u64.wrap (v + 2 * (j - i)) ∧ (rd_T88 l' j).f1 = IntKind.i8.wrap (v + 2 * (j - i) + 1)) := by
      intro y hy hy1 hy2 hy3
      obtain ⟨l', e, hl', h1, h2⟩ := ih k y (v + 1 + 1) (i + 1) hy (by omega) (by omega) (by omega) (by omega) (by omega)
      refine ⟨l', by rw [e]; congr 2; omega, hl', fun j hj hj2 => by rw [h1 j hj (by omega), hy1 j hj hj2], fun j hj hj2 => ?_⟩
      by_cases e2 : j = i
      · subst e2
        rw [h1 j (by omega) (by omega), hy2, hy3]; simp
      · have := h2 j (by omega) hj2
        rw [show v + 1 + 1 + 2 * (j - (i + 1)) = v + 2 * (j - i) by omega] at this
        exact this
    simp only [laws_markStepS.l0, Option.bind_some]
    rw [if_pos (by omega), if_pos h0, L_w (x := v + 1) (by omega), L_w (x := v + 1 + 1) (by omega), L_w (x := i + 1) (by omega)]
    refine key _ (by simpa using hl) (fun j hj hj2 => ?_) ?_ ?_
    · rw [L_rdNe h0 hj (by omega), L_rdNe h0 hj (by omega)]
    · rw [L_rdSet h0 (by simp <;> omega), L_rdSet h0 (by omega)]
    · rw [L_rdSet h0 (by simp <;> omega)]

theorem L_heldSt (n : Nat) (hn : n ≤ 1048576) (l : List S88) (hl : l.length = n) (d : Nat) : ∀ (k : Nat) (v i : Int), 0 ≤ i → i + d = n → d < k → 0 ≤ v → v ≤ 1000000000 + 2 * i →
    (∀ j : Int, i ≤ j → j < n → (rd_T88 l j).f0 = IntKind.u64.wrap (v + 2 * (j - i)) ∧ (rd_T88 l j).f1 = IntKind.i8.wrap (v + 2 * (j - i) + 1)) →
    laws_heldStepS.l0 k l v i = some (v + 2 * d) := by
  induction d with
  | zero =>
    intro k v i h0 hd hk hv hv2 h
    obtain ⟨k, rfl⟩ : ∃ m, k = m + 1 := ⟨k - 1, by omega⟩
    simp only [laws_heldStepS.l0]; rw [if_neg (by omega)]; simp
  | succ d ih =>
    intro k v i h0 hd hk hv hv2 h
    obtain ⟨k, rfl⟩ : ∃ m, k = m + 1 := ⟨k - 1, by omega⟩
    obtain ⟨h1, h2⟩ := h i (by omega) (by omega)
    rw [show v + 2 * (i - i) = v by omega] at h1 h2
    simp only [laws_heldStepS.l0]
    rw [if_pos (by omega), if_pos h0, if_pos h1, L_w (x := v + 1) (by omega), if_pos h2, L_w (x := v + 1 + 1) (by omega), L_w (x := i + 1) (by omega),
      ih k (v + 1 + 1) (i + 1) (by omega) (by omega) (by omega) (by omega) (by omega) (fun j hj hj2 => by have := h j (by omega) hj2; rwa [show v + 1 + 1 + 2 * (j - (i + 1)) = v + 2 * (j - i) by omega])]
    congr 1; omega

theorem L_markHeldSt (l : List S88) (hn : l.length ≤ 1048576) {k : Nat} (hk : l.length < k) : ∃ l', laws_markStepS.f k l 1 = some (1 + 2 * (l.length : Int), l') ∧ (∀ q, l.length < q → laws_heldStepS.f q l' 1 = some (1 + 2 * (l.length : Int))) := by
  obtain ⟨l', e, hl', _, h2⟩ := L_markSt l.length hn l.length k l 1 0 rfl (by omega) (by omega) hk (by omega) (by omega)
  exact ⟨l', e, fun q hq => L_heldSt l.length hn l' hl' l.length q 1 0 (by omega) (by omega) hq (by omega) (by omega) h2⟩


theorem FnExactMirrorSteps : ∀ (l0 : List S90), (∀ x ∈ l0, 0 ≤ x.f0 ∧ x.f0 ≤ 18446744073709551615 ∧ -128 ≤ x.f1 ∧ x.f1 ≤ 127) → l0.length * 16 ≤ 140737488351232 → ∃ k, laws_FnExactMirrorSteps.f k l0 = some true := by
  intro l h8 hl
  have h8' := L_map8 l h8
  obtain ⟨R, c, hR, e⟩ := L_mirSteps (l.map D_step) h8' (by simp <;> omega)
  refine ⟨l.length + 3100, ?_⟩
  have e' : ∀ k, l.length + 3000 ≤ k → spec_MirrorSteps.f k (l.map D_step) = some (R, c) ∧ impl_MirrorSteps.f k (l.map D_step) = some (R, c) := fun k hk => e k (by simpa using hk)
  unfold laws_FnExactMirrorSteps.f
  rw [L_szSteps l hl]
  simp only [Option.bind_some]
  by_cases h : 1048576 < (l.length : Int)
  · rw [if_pos h]; rfl
  · rw [if_neg h, if_neg (by omega), L_toSteps l (by omega) (by omega)]
    simp only [Option.bind_some]
    rw [(e' _ (by omega)).1, (e' _ (by omega)).2]
    simp only [Option.bind_some]
    rw [L_eqSteps R (by omega) (by omega)]
    simp only [Option.bind_some, if_true, bne_self_eq_false]
    simp only [laws_FnExactMirrorSteps.j0, Bool.false_eq_true, if_false]
    rw [L_toSteps l (by omega) (by omega)]
    simp only [Option.bind_some]
    rw [L_eqSteps _ (by simp <;> omega) (by simp <;> omega)]
    simp only [Option.bind_some, if_true]
    obtain ⟨la, ea, _⟩ := L_markHeldSt (l.map D_step) (by simp <;> omega) (k := l.length + 3099) (by simp <;> omega)
    rw [ea]
    simp only [Option.bind_some]
    rw [if_neg (by omega), L_eqSteps R (by omega) (by omega)]
    simp only [Option.bind_some, if_true, laws_FnExactMirrorSteps.j1, bne_self_eq_false, Bool.false_eq_true, if_false]
    obtain ⟨lb, eb, hb⟩ := L_markHeldSt R (by omega) (k := l.length + 3098) (by omega)
    rw [eb]
    simp only [Option.bind_some]
    rw [hb _ (by omega)]
    simp only [Option.bind_some]
    rw [if_neg (by omega)]
    simp only [if_true]
    rw [L_toSteps l (by omega) (by omega)]
    simp only [Option.bind_some]
    rw [(e' _ (by omega)).2]
    simp only [Option.bind_some]
    rw [L_eqSteps R (by omega) (by omega)]
    simp only [Option.bind_some, if_true, laws_FnExactMirrorSteps.j2, bne_self_eq_false, Bool.false_eq_true, if_false]
    rw [hb _ (by omega)]
    simp only [Option.bind_some]
    rw [if_neg (by omega)]
    simp only [if_true]

end Go.Proofs.Ytiaaibiodolcgaa.Pure
