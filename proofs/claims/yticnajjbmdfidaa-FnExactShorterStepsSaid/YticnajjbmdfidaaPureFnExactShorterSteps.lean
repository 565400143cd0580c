/- The plain law of FnExactShorterSteps: the printed function of the law answers true for all arguments within their kinds' bounds. No condition besides. -/
import Derived.Test.YticnajjbmdfidaaQx21
namespace Go.Proofs.Yticnajjbmdfidaa.Pure
open Go.RowKit Go.Proofs.Yticnajjbmdfidaa.Q Go.Proofs.YticnajjbmdfidaaW.PrintWords Go.Proofs.YticnajjbmdfidaaW.PrintLast Go.Proofs.YticnajjbmdfidaaW.PrintMore
set_option linter.unusedVariables false
set_option linter.unusedSimpArgs false
def D_i8s (l : List S76) : Prop := ∀ x ∈ l, -128 ≤ x.f1 ∧ x.f1 ≤ 127

def D_step (x : S82) : S76 := ⟨x.f0, x.f1⟩

theorem L_map8 (l : List S82) (h : ∀ x ∈ l, 0 ≤ x.f0 ∧ x.f0 ≤ 18446744073709551615 ∧ -128 ≤ x.f1 ∧ x.f1 ≤ 127) : D_i8s (l.map D_step) := by
  intro x hx
  simp only [List.mem_map] at hx
  obtain ⟨y, hy, rfl⟩ := hx
  have := h y hy
  unfold D_step
  dsimp only
  omega

def D_steps (l : List S76) : Prop := (∀ x ∈ l, 0 ≤ x.f1 ∧ x.f1 ≤ 36) ∧ l.length ≤ 30
instance (l : List S76) : Decidable (D_steps l) := by unfold D_steps; infer_instance

def D_find (m t : Int) : List S76 → Int → Int
  | [], _ => -1
  | x :: r, i => if x.f1 = t ∧ Go.bits .and .u64 x.f0 m = 0 then i else D_find m t r (i + 1)

def D_shPut (m t : Int) (o : List S76) : List S76 :=
  if D_find m t o 0 < 0 then o ++ [⟨m, t⟩] else o.set (D_find m t o 0).toNat ⟨Go.bits .or .u64 (rd_T76 o (D_find m t o 0)).f0 m, (rd_T76 o (D_find m t o 0)).f1⟩

def D_short : List S76 → List S76 → List S76
  | [], o => o
  | x :: r, o => if x.f0 = 0 then D_short r o else D_short r (D_shPut x.f0 x.f1 o)

theorem L_shPutLen (m t : Int) (o : List S76) : (D_shPut m t o).length ≤ o.length + 1 := by
  unfold D_shPut; split <;> simp

theorem L_shortLen : ∀ (l o : List S76), (D_short l o).length ≤ l.length + o.length
  | [], o => by simp [D_short]
  | x :: r, o => by
    unfold D_short
    split
    · have := L_shortLen r o; simp; omega
    · have := L_shortLen r (D_shPut x.f0 x.f1 o); have := L_shPutLen x.f0 x.f1 o; simp; omega

theorem L_idxAnyOn {α : Type} (q : α → Option Bool) (p : α → Bool) : ∀ (l : List α) (i : Int), (∀ x ∈ l, q x = some (p x)) → 0 ≤ i → ∃ r, D_idx q l i = some r ∧ (l.any p = false → r = -1) ∧ (l.any p = true → 0 ≤ r)
  | [], i, _, hi => ⟨-1, rfl, fun _ => rfl, fun h => by simp at h⟩
  | x :: t, i, h, hi => by
    simp only [D_idx, h x (by simp), Option.bind_some]
    by_cases hx : p x = true
    · rw [if_pos hx]
      exact ⟨i, rfl, fun h => by simp [hx] at h, fun _ => hi⟩
    · rw [if_neg hx]
      obtain ⟨r, h1, h2, h3⟩ := L_idxAnyOn q p t (i + 1) (fun y hy => h y (by simp [hy])) (by omega)
      refine ⟨r, h1, fun h => h2 (by simpa [hx] using h), fun h => h3 (by simpa [hx] using h)⟩

theorem L_w {x : Int} (h : -9223372036854775808 ≤ x ∧ x ≤ 9223372036854775807) : wrap64 x = x := by unfold wrap64; omega

theorem L_sd {p q : Prop} [Decidable p] [Decidable q] (h : p ↔ q) : some (decide p) = some (decide q) := by rw [decide_eq_decide.mpr h]

theorem L_sf {q : Prop} [Decidable q] (h : ¬ q) : some false = some (decide q) := by rw [decide_eq_false h]

theorem L_within (a b c : Int) : impl_within.f a b c = some (decide (b ≤ a ∧ a ≤ c)) := by
  unfold impl_within.f
  split
  · exact L_sd (by omega)
  · exact L_sf (by omega)

theorem L_areThirds (a : Int) : impl_areThirds.f a = some (decide (0 ≤ a ∧ a ≤ 36)) := by
  unfold impl_areThirds.f; rw [L_within]; rfl

theorem L_anyIff {α : Type} (P : α → Prop) [DecidablePred P] (l : List α) (r : Int) (h2 : l.any (fun x => !decide (P x)) = false → r = -1) (h3 : l.any (fun x => !decide (P x)) = true → 0 ≤ r) [Decidable (∀ x ∈ l, P x)] :
    decide (0 ≤ r) = !decide (∀ x ∈ l, P x) := by
  by_cases h : ∀ x ∈ l, P x
  · have e : l.any (fun x => !decide (P x)) = false := by rw [List.any_eq_false]; intro x hx; simp [h x hx]
    rw [h2 e, decide_eq_true h]
    rfl
  · have e : l.any (fun x => !decide (P x)) = true := by
      rw [List.any_eq_true]
      obtain ⟨x, hx⟩ := Classical.not_forall.1 h
      obtain ⟨hx, hh⟩ := Classical.not_imp.1 hx
      exact ⟨x, hx, by simp only [Bool.not_eq_true', decide_eq_false_iff_not]; exact hh⟩
    rw [decide_eq_false h, decide_eq_true (h3 e)]
    rfl


theorem L_implSteps (l : List S76) (h8 : D_i8s l) : impl_ValidSteps.f l = some (decide (D_steps l)) := by
  unfold impl_ValidSteps.f impl_Step_95.f impl_Step_61.f
  rw [if_pos rfl]
  obtain ⟨r, h1, h2, h3⟩ := L_idxAnyOn (fun x : S76 => impl_ValidSteps_1.f x.f0 x.f1) (fun x => !decide (0 ≤ x.f1 ∧ x.f1 ≤ 36)) l 0 (fun x hx => by
    have := h8 x hx
    unfold impl_ValidSteps_1.f
    rw [L_w (x := x.f1) (by omega), L_areThirds]; rfl) (by omega)
  rw [h1]
  simp only [Option.bind_some]
  rw [L_anyIff (fun x : S76 => 0 ≤ x.f1 ∧ x.f1 ≤ 36) l r h2 h3]
  unfold D_steps
  by_cases hl : l.length ≤ 30
  · first
    | rw [if_pos (by omega)]
      simp only [Bool.not_not]
      exact L_sd ⟨fun h => ⟨h, hl⟩, fun h => h.1⟩
    | simp [hl]
  · first
    | rw [if_neg (by omega)]
      exact L_sf (fun h => hl h.2)
    | simp [hl]

theorem L_rdS {l : List S76} {i : Int} (h0 : 0 ≤ i) (h : i < l.length) : ∃ hi : i.toNat < l.length, rd_T76 l i = l[i.toNat]'hi :=
  ⟨by omega, by unfold rd_T76; rw [List.getD_eq_getElem?_getD, List.getElem?_eq_getElem (by omega)]; rfl⟩

theorem L_idxFind (m t : Int) : ∀ (o : List S76) (i : Int), D_idx (D_shq m t) o i = some (D_find m t o i)
  | [], _ => rfl
  | x :: r, i => by
    simp only [D_idx, D_shq, Option.bind_some, decide_eq_true_eq, D_find]
    split
    · rfl
    · exact L_idxFind m t r (i + 1)

theorem L_findRange (m t : Int) : ∀ (o : List S76) (i : Int), 0 ≤ i → D_find m t o i = -1 ∨ (i ≤ D_find m t o i ∧ D_find m t o i < i + o.length)
  | [], _, _ => .inl rfl
  | x :: r, i, h => by
    unfold D_find
    split
    · exact .inr ⟨by omega, by simp; omega⟩
    · rcases L_findRange m t r (i + 1) (by omega) with e | e
      · exact .inl e
      · exact .inr ⟨by omega, by simp; omega⟩

theorem L_implShort (l : List S76) (hl : l.length ≤ 30) (d : Nat) : ∀ (n : Nat) (o : List S76) (i : Int), 0 ≤ i → i + d = l.length → d < n → o.length ≤ i →
    impl_ShorterSteps.l0 l n o i = some (D_short (l.drop i.toNat) o) := by
  induction d with
  | zero =>
    intro n o i h0 hd hn ho
    obtain ⟨n, rfl⟩ : ∃ m, n = m + 1 := ⟨n - 1, by omega⟩
    simp only [impl_ShorterSteps.l0]
    rw [if_neg (by omega), List.drop_eq_nil_of_le (by omega)]; rfl
  | succ d ih =>
    intro n o i h0 hd hn ho
    obtain ⟨n, rfl⟩ : ∃ m, n = m + 1 := ⟨n - 1, by omega⟩
    obtain ⟨hi, e⟩ := L_rdS (l := l) (i := i) h0 (by omega)
    simp only [impl_ShorterSteps.l0]
    rw [if_pos (by omega), L_w (x := i + 1) (by omega), List.drop_eq_getElem_cons hi, ← e]
    unfold D_short
    by_cases hz : (rd_T76 l i).f0 = 0
    · rw [if_pos hz, if_pos hz, ih n o (i + 1) (by omega) (by omega) (by omega) (by omega), show (i + 1).toNat = i.toNat + 1 by omega]
    · rw [if_neg hz, if_neg hz, L_idxFind]
      simp only [Option.bind_some]
      have hr := L_findRange (rd_T76 l i).f0 (rd_T76 l i).f1 o 0 (by omega)
      have hp := L_shPutLen (rd_T76 l i).f0 (rd_T76 l i).f1 o
      have := ih n (D_shPut (rd_T76 l i).f0 (rd_T76 l i).f1 o) (i + 1) (by omega) (by omega) (by omega) (by omega)
      rw [show (i + 1).toNat = i.toNat + 1 by omega] at this
      by_cases hj : D_find (rd_T76 l i).f0 (rd_T76 l i).f1 o 0 < 0
      · rw [if_pos hj, if_pos (by omega), ← this]
        unfold D_shPut; rw [if_pos hj]
      · rw [if_neg hj, if_pos (by omega), ← this]
        unfold D_shPut; rw [if_neg hj]

theorem L_in (a b c : Int) : spec_l00In.f a b c = some (decide (b ≤ a ∧ a ≤ c)) := by
  unfold spec_l00In.f
  split
  · exact L_sd (by omega)
  · exact L_sf (by omega)

theorem L_specThirds (a : Int) : spec_l03Thirds.f a = some (decide (0 ≤ a ∧ a ≤ 36)) := by
  unfold spec_l03Thirds.f; rw [L_in]; rfl

theorem L_stepsOkLoop (l : List S76) (h8 : D_i8s l) (hn : l.length ≤ 140737488351232) (d : Nat) : ∀ (k : Nat) (i : Int), 0 ≤ i → i + d = l.length → d < k →
    spec_l03Ok.l0 k l i = some (decide ((∀ x ∈ l.drop i.toNat, 0 ≤ x.f1 ∧ x.f1 ≤ 36) ∧ l.length ≤ 30)) := by
  induction d with
  | zero =>
    intro k i h0 hd hk
    obtain ⟨k, rfl⟩ : ∃ m, k = m + 1 := ⟨k - 1, by omega⟩
    simp only [spec_l03Ok.l0]
    rw [if_neg (by omega), List.drop_eq_nil_of_le (by omega)]
    exact L_sd (by simp; omega)
  | succ d ih =>
    intro k i h0 hd hk
    obtain ⟨k, rfl⟩ : ∃ m, k = m + 1 := ⟨k - 1, by omega⟩
    obtain ⟨hi, e⟩ := L_rdS (l := l) (i := i) h0 (by omega)
    have h1 := h8 _ (List.getElem_mem hi)
    rw [← e] at h1
    simp only [spec_l03Ok.l0, L_specThirds, Option.bind_some, decide_eq_true_eq]
    rw [if_pos (by omega), if_pos h0, L_w (x := i + 1) (by omega), L_w (x := (rd_T76 l i).f1) (by omega), List.drop_eq_getElem_cons hi, ← e]
    split
    · rename_i hx
      rw [ih k (i + 1) (by omega) (by omega) (by omega), show (i + 1).toNat = i.toNat + 1 by omega]
      exact L_sd (by simp [hx])
    · rename_i hx
      exact L_sf (fun h => hx (h.1 _ (by simp)))

theorem L_stepsOk (l : List S76) (h8 : D_i8s l) (hn : l.length ≤ 140737488351232) {k : Nat} (hk : l.length < k) : spec_l03Ok.f k l = some (decide (D_steps l)) := by
  unfold spec_l03Ok.f
  rw [L_stepsOkLoop l h8 hn l.length k 0 (by omega) (by omega) hk]
  exact L_sd (by unfold D_steps; simp)

theorem L_specShortIn (l o : List S76) (i m t : Int) (R : List S76) (K : Nat) (h0 : 0 ≤ i) (hi : i < 100) (ho : o.length ≤ 100)
    (hR : ∀ k, K ≤ k → spec_ShorterSteps.l0 k l (D_shPut m t o) (i + 1) = some (R, 0)) (d : Nat) : ∀ (k : Nat) (p : Int), 0 ≤ p → p + d = o.length → D_find m t o 0 = D_find m t (o.drop p.toNat) p → K + 2 * d + 5 ≤ k →
    spec_ShorterSteps.l1 k l o i (-1) p m t = some (R, 0) := by
  induction d with
  | zero =>
    intro k p hp hd hf hk
    obtain ⟨k, rfl⟩ : ∃ q, k = q + 2 := ⟨k - 2, by omega⟩
    rw [List.drop_eq_nil_of_le (by omega)] at hf
    simp only [spec_ShorterSteps.l1, spec_ShorterSteps.j2]
    rw [if_neg (by omega)]
    simp only [Bool.false_eq_true, if_false]
    rw [if_pos (by omega), if_pos (by omega), L_w (x := i + 1) (by omega)]
    have := hR k (by omega)
    unfold D_shPut at this
    rw [if_pos (by rw [hf]; simp [D_find])] at this
    exact this
  | succ d ih =>
    intro k p hp hd hf hk
    obtain ⟨k, rfl⟩ : ∃ q, k = q + 2 := ⟨k - 2, by omega⟩
    obtain ⟨hlt, e⟩ := L_rdS (l := o) (i := p) hp (by omega)
    rw [List.drop_eq_getElem_cons hlt, ← e] at hf
    simp only [D_find] at hf
    simp only [spec_ShorterSteps.l1, spec_ShorterSteps.j2]
    rw [if_pos (by omega), show decide ((-1 : Int) < 0) = true from rfl]
    simp only [if_true]
    rw [if_pos hp, if_pos (by omega), L_w (x := p + 1) (by omega)]
    by_cases h1 : (rd_T76 o p).f1 = t
    · rw [if_pos h1]
      by_cases h2 : Go.bits .and .u64 (rd_T76 o p).f0 m = 0
      · rw [if_pos h2]
        rw [if_pos ⟨h1, h2⟩] at hf
        obtain ⟨k, rfl⟩ : ∃ q, k = q + 2 := ⟨k - 2, by omega⟩
        have := hR k (by omega)
        unfold D_shPut at this
        rw [if_neg (by omega), hf] at this
        simp only [spec_ShorterSteps.l1, spec_ShorterSteps.j2]
        have e2 : decide (p < 0) = false := decide_eq_false (by omega)
        rw [e2]
        simp only [Bool.false_eq_true, if_false]
        split <;> (rw [if_neg (by omega), if_pos (by omega), L_w (x := i + 1) (by omega)]; exact this)
      · rw [if_neg h2]
        rw [if_neg (fun h => h2 h.2)] at hf
        exact ih k (p + 1) (by omega) (by omega) (by rw [hf, show (p + 1).toNat = p.toNat + 1 by omega]) (by omega)
    · rw [if_neg h1]
      rw [if_neg (fun h => h1 h.1)] at hf
      exact ih k (p + 1) (by omega) (by omega) (by rw [hf, show (p + 1).toNat = p.toNat + 1 by omega]) (by omega)

theorem L_specShort (l : List S76) (hl : l.length ≤ 30) (d : Nat) : ∀ (k : Nat) (o : List S76) (i : Int), 0 ≤ i → i + d = l.length → 100 * d + 1 ≤ k → o.length ≤ i →
    spec_ShorterSteps.l0 k l o i = some (D_short (l.drop i.toNat) o, 0) := by
  induction d with
  | zero =>
    intro k o i h0 hd hn ho
    obtain ⟨k, rfl⟩ : ∃ m, k = m + 1 := ⟨k - 1, by omega⟩
    simp only [spec_ShorterSteps.l0]
    rw [if_neg (by omega), List.drop_eq_nil_of_le (by omega)]; rfl
  | succ d ih =>
    intro k o i h0 hd hn ho
    obtain ⟨k, rfl⟩ : ∃ m, k = m + 1 := ⟨k - 1, by omega⟩
    obtain ⟨hi, e⟩ := L_rdS (l := l) (i := i) h0 (by omega)
    simp only [spec_ShorterSteps.l0]
    rw [if_pos (by omega), if_pos h0, L_w (x := i + 1) (by omega), List.drop_eq_getElem_cons hi, ← e]
    unfold D_short
    by_cases hz : (rd_T76 l i).f0 = 0
    · rw [if_pos hz, if_pos hz, ih k o (i + 1) (by omega) (by omega) (by omega) (by omega), show (i + 1).toNat = i.toNat + 1 by omega]
    · rw [if_neg hz, if_neg hz]
      have hp := L_shPutLen (rd_T76 l i).f0 (rd_T76 l i).f1 o
      refine L_specShortIn l o i _ _ _ (100 * d + 1) h0 (by omega) (by omega) (fun q hq => ?_) o.length k 0 (by omega) (by omega) (by simp) (by omega)
      have := ih q (D_shPut (rd_T76 l i).f0 (rd_T76 l i).f1 o) (i + 1) (by omega) (by omega) (by omega) (by omega)
      rwa [show (i + 1).toNat = i.toNat + 1 by omega] at this

theorem L_shortSteps (l : List S76) (h8 : D_i8s l) (hn : l.length ≤ 140737488351232) : ∃ R c, R.length ≤ 30 ∧ impl_ShorterSteps.f l = some (R, c) ∧ (∀ k, l.length + 4000 ≤ k → spec_ShorterSteps.f k l = some (R, c)) ∧ (D_steps l → R = D_short l [] ∧ c = 0) := by
  by_cases h : D_steps l
  · have hl := h.2
    refine ⟨D_short l [], 0, by have := L_shortLen l []; simp at this; omega, ?_, fun k hk => ?_, fun _ => ⟨rfl, rfl⟩⟩
    · unfold impl_ShorterSteps.f
      rw [L_implSteps l h8, decide_eq_true h]
      simp only [Option.bind_some, if_true]
      rw [L_implShort l hl l.length (l.length + 1) [] 0 (by omega) (by omega) (by omega) (by simp)]; rfl
    · unfold spec_ShorterSteps.f
      rw [L_stepsOk l h8 hn (by omega), decide_eq_true h]
      simp only [Option.bind_some, if_true]
      rw [L_specShort l hl l.length k [] 0 (by omega) (by omega) (by omega) (by simp)]; rfl
  · refine ⟨[], 1, by simp, ?_, fun k hk => ?_, fun hh => absurd hh h⟩
    · unfold impl_ShorterSteps.f
      rw [L_implSteps l h8, decide_eq_false h]; rfl
    · unfold spec_ShorterSteps.f
      rw [L_stepsOk l h8 hn (by omega), decide_eq_false h]; rfl


theorem L_szSteps (l : List S82) (h : l.length * 16 ≤ 140737488351232) : laws_szStepS.f l 1048576 = some (if 1048576 < (l.length : Int) then (-1 : Int) else (1048576 : Int) - (l.length : Int)) := by
  unfold laws_szStepS.f; rw [L_w (by omega)]
  by_cases h : 1048576 < (l.length : Int)
  · rw [if_pos (by omega), if_pos h]
  · rw [if_neg (by omega), if_neg h]

theorem L_rdL {l : List S82} {i : Int} (h0 : 0 ≤ i) (h : i < l.length) : ∃ hi : i.toNat < l.length, rd_T82 l i = l[i.toNat]'hi :=
  ⟨by omega, by unfold rd_T82; rw [List.getD_eq_getElem?_getD, List.getElem?_eq_getElem (by omega)]; rfl⟩

theorem L_toStepsLoop (l : List S82) (hn : l.length ≤ 1048576) (d : Nat) : ∀ (k : Nat) (out : List S76) (i : Int), out.length = l.length → 0 ≤ i → i + d = l.length → d < k → out.take i.toNat = (l.map D_step).take i.toNat → laws_toStepS.l0 k l out i = some (l.map D_step) := by
  induction d with
  | zero =>
    intro k out i ho h0 hd hk ht
    obtain ⟨k, rfl⟩ : ∃ m, k = m + 1 := ⟨k - 1, by omega⟩
    simp only [laws_toStepS.l0]; rw [if_neg (by omega)]
    rw [List.take_of_length_le (by omega), List.take_of_length_le (by simp; omega)] at ht
    rw [ht]
  | succ d ih =>
    intro k out i ho h0 hd hk ht
    obtain ⟨k, rfl⟩ : ∃ m, k = m + 1 := ⟨k - 1, by omega⟩
    obtain ⟨hi, e⟩ := L_rdL (l := l) (i := i) h0 (by omega)
    simp only [laws_toStepS.l0, laws_toStep.f, Option.bind_some]; rw [if_pos (by omega), if_pos h0, if_pos (by omega), L_w (x := i + 1) (by omega)]
    refine ih k _ (i + 1) (by simpa using ho) (by omega) (by omega) (by omega) ?_
    rw [show (i + 1).toNat = i.toNat + 1 by omega, List.take_succ_eq_append_getElem (by simp; omega), List.take_succ_eq_append_getElem (by simpa using hi), List.getElem_set_self, List.take_set_of_le (by omega), ht, List.getElem_map, e]
    rfl

theorem L_toSteps (l : List S82) (hn : l.length ≤ 1048576) {k : Nat} (hk : l.length < k) : laws_toStepS.f k l = some (l.map D_step) := by
  unfold laws_toStepS.f
  rw [if_pos (by omega), if_pos (by omega)]
  exact L_toStepsLoop l hn l.length k _ 0 (by simp) (by omega) (by omega) hk (by simp)

theorem L_eqSteps (l : List S76) (hn : l.length ≤ 140737488351232) {k : Nat} (hk : l.length < k) : laws_eqStepS.f k l l = some true := by
  have H : ∀ (d : Nat) (k : Nat) (i : Int), 0 ≤ i → i + d = l.length → d < k → laws_eqStepS.l0 k l l i = some true := by
    intro d
    induction d with
    | zero =>
      intro k i h0 hd hk
      obtain ⟨k, rfl⟩ : ∃ m, k = m + 1 := ⟨k - 1, by omega⟩
      simp only [laws_eqStepS.l0]; rw [if_neg (by omega)]
    | succ d ih =>
      intro k i h0 hd hk
      obtain ⟨k, rfl⟩ : ∃ m, k = m + 1 := ⟨k - 1, by omega⟩
      simp only [laws_eqStepS.l0, laws_eqStep.f, if_true, Option.bind_some]; rw [if_pos (by omega), if_pos h0, if_pos (by omega), L_w (x := i + 1) (by omega)]
      exact ih k (i + 1) (by omega) (by omega) (by omega)
  unfold laws_eqStepS.f; rw [if_pos rfl]; exact H l.length k 0 (by omega) (by omega) hk

theorem L_rdNe {l : List S76} {i j : Int} (hi : 0 ≤ i) (hj : 0 ≤ j) (h : i ≠ j) (x : S76) : rd_T76 (l.set i.toNat x) j = rd_T76 l j := by
  unfold rd_T76
  rw [List.getD_eq_getElem?_getD, List.getD_eq_getElem?_getD, List.getElem?_set_ne (by omega)]

theorem L_rdSet {l : List S76} {i : Int} (hi : 0 ≤ i) (h : i < l.length) (x : S76) : rd_T76 (l.set i.toNat x) i = x := by
  unfold rd_T76
  rw [List.getD_eq_getElem?_getD, List.getElem?_set_self (by omega)]; rfl

theorem L_markSt (n : Nat) (hn : n ≤ 1048576) (d : Nat) : ∀ (k : Nat) (l : List S76) (v i : Int), l.length = n → 0 ≤ i → i + d = n → d < k → 0 ≤ v → v ≤ 1000000000 + 2 * i →
    ∃ l', laws_markStepS.l0 k l v i = some (v + 2 * d, l') ∧ l'.length = n ∧ (∀ j : Int, 0 ≤ j → j < i → rd_T76 l' j = rd_T76 l j) ∧
      (∀ j : Int, i ≤ j → j < n → (rd_T76 l' j).f0 = IntKind.u64.wrap (v + 2 * (j - i)) ∧ (rd_T76 l' j).f1 = IntKind.i8.wrap (v + 2 * (j - i) + 1)) := by
  induction d with
  | zero =>
    intro k l v i hl h0 hd hk hv hv2
    obtain ⟨k, rfl⟩ : ∃ m, k = m + 1 := ⟨k - 1, by omega⟩
    refine ⟨l, ?_, hl, fun _ _ _ => rfl, fun j h1 h2 => by omega⟩
    simp only [laws_markStepS.l0]; rw [if_neg (by omega)]; simp
  | succ d ih =>
    intro k l v i hl h0 hd hk hv hv2
    obtain ⟨k, rfl⟩ : ∃ m, k = m + 1 := ⟨k - 1, by omega⟩
    have key : ∀ y : List S76, y.length = n → (∀ j : Int, 0 ≤ j → j < i → rd_T76 y j = rd_T76 l j) → (rd_T76 y i).f0 = IntKind.u64.wrap v → (rd_T76 y i).f1 = IntKind.i8.wrap (v + 1) →
        ∃ l', laws_markStepS.l0 k y (v + 1 + 1) (i + 1) = some (v + 2 * ((d + 1 : Nat) : Int), l') ∧ l'.length = n ∧ (∀ j : Int, 0 ≤ j → j < i → rd_T76 l' j = rd_T76 l j) ∧
          (∀ j : Int, i ≤ j → j < n → (rd_T76 l' j).f0 = IntKind.u64.wrap (v + 2 * (j - i)) ∧ (rd_T76 l' j).f1 = IntKind.i8.wrap (v + 2 * (j - i) + 1)) := by
      intro y hy hy1 hy2 hy3
      obtain ⟨l', e, hl', h1, h2⟩ := ih k y (v + 1 + 1) (i + 1) hy (by omega) (by omega) (by omega) (by omega) (by omega)
      refine ⟨l', by rw [e]; congr 2; omega, hl', fun j hj hj2 => by rw [h1 j hj (by omega), hy1 j hj hj2], fun j hj hj2 => ?_⟩
      by_cases e2 : j = i
      · subst e2
        rw [h1 j (by omega) (by omega), hy2, hy3]; simp
      · have := h2 j (by omega) hj2
        rw [show v + 1 + 1 + 2 * (j - (i + 1)) = v + 2 * (j - i) by omega] at this
        exact this
    simp only [laws_markStepS.l0, Option.bind_some]
    rw [if_pos (by omega), if_pos h0, L_w (x := v + 1) (by omega), L_w (x := v + 1 + 1) (by omega), L_w (x := i + 1) (by omega)]
    refine key _ (by simpa using hl) (fun j hj hj2 => ?_) ?_ ?_
    · rw [L_rdNe h0 hj (by omega), L_rdNe h0 hj (by omega)]
    · rw [L_rdSet h0 (by simp <;> omega), L_rdSet h0 (by omega)]
    · rw [L_rdSet h0 (by simp <;> omega)]

theorem L_heldSt (n : Nat) (hn : n ≤ 1048576) (l : List S76) (hl : l.length = n) (d : Nat) : ∀ (k : Nat) (v i : Int), 0 ≤ i → i + d = n → d < k → 0 ≤ v → v ≤ 1000000000 + 2 * i →
    (∀ j : Int, i ≤ j → j < n → (rd_T76 l j).f0 = IntKind.u64.wrap (v + 2 * (j - i)) ∧ (rd_T76 l j).f1 = IntKind.i8.wrap (v + 2 * (j - i) + 1)) →
    laws_heldStepS.l0 k l v i = some (v + 2 * d) := by
  induction d with
  | zero =>
    intro k v i h0 hd hk hv hv2 h
    obtain ⟨k, rfl⟩ : ∃ m, k = m + 1 := ⟨k - 1, by omega⟩
    simp only [laws_heldStepS.l0]; rw [if_neg (by omega)]; simp
  | succ d ih =>
    intro k v i h0 hd hk hv hv2 h
    obtain ⟨k, rfl⟩ : ∃ m, k = m + 1 := ⟨k - 1, by omega⟩
    obtain ⟨h1, h2⟩ := h i (by omega) (by omega)
    rw [show v + 2 * (i - i) = v by omega] at h1 h2
    simp only [laws_heldStepS.l0]
    rw [if_pos (by omega), if_pos h0, if_pos h1, L_w (x := v + 1) (by omega), if_pos h2, L_w (x := v + 1 + 1) (by omega), L_w (x := i + 1) (by omega),
      ih k (v + 1 + 1) (i + 1) (by omega) (by omega) (by omega) (by omega) (by omega) (fun j hj hj2 => by have := h j (by omega) hj2; rwa [show v + 1 + 1 + 2 * (j - (i + 1)) = v + 2 * (j - i) by omega])]
    congr 1; omega

theorem L_markHeldSt (l : List S76) (hn : l.length ≤ 1048576) {k : Nat} (hk : l.length < k) : ∃ l', laws_markStepS.f k l 1 = some (1 + 2 * (l.length : Int), l') ∧ (∀ q, l.length < q → laws_heldStepS.f q l' 1 = some (1 + 2 * (l.length : Int))) := by
  obtain ⟨l', e, hl', _, h2⟩ := L_markSt l.length hn l.length k l 1 0 rfl (by omega) (by omega) hk (by omega) (by omega)
  exact ⟨l', e, fun q hq => L_heldSt l.length hn l' hl' l.length q 1 0 (by omega) (by omega) hq (by omega) (by omega) h2⟩


theorem FnExactShorterSteps : ∀ (l0 : List S82), (∀ x ∈ l0, 0 ≤ x.f0 ∧ x.f0 ≤ 18446744073709551615 ∧ -128 ≤ x.f1 ∧ x.f1 ≤ 127) → l0.length * 16 ≤ 140737488351232 → ∃ k, laws_FnExactShorterSteps.f k l0 = some true := by
  intro l h8 hl
  have h8' := L_map8 l h8
  obtain ⟨R, c, hR, e2, e1, _⟩ := L_shortSteps (l.map D_step) h8' (by simp <;> omega)
  refine ⟨l.length + 4100, ?_⟩
  have e1' : ∀ k, l.length + 4000 ≤ k → spec_ShorterSteps.f k (l.map D_step) = some (R, c) := fun k hk => e1 k (by simpa using hk)
  unfold laws_FnExactShorterSteps.f
  rw [L_szSteps l hl]
  simp only [Option.bind_some]
  by_cases h : 1048576 < (l.length : Int)
  · rw [if_pos h]; rfl
  · rw [if_neg h, if_neg (by omega), L_toSteps l (by omega) (by omega)]
    simp only [Option.bind_some]
    rw [e1' _ (by omega)]
    simp only [Option.bind_some]
    rw [e2]
    simp only [Option.bind_some]
    rw [L_eqSteps R (by omega) (by omega)]
    simp only [Option.bind_some, if_true, bne_self_eq_false]
    simp only [laws_FnExactShorterSteps.j0, Bool.false_eq_true, if_false]
    rw [L_toSteps l (by omega) (by omega)]
    simp only [Option.bind_some]
    rw [L_eqSteps _ (by simp <;> omega) (by simp <;> omega)]
    simp only [Option.bind_some, if_true]
    obtain ⟨la, ea, _⟩ := L_markHeldSt (l.map D_step) (by simp <;> omega) (k := l.length + 4099) (by simp <;> omega)
    rw [ea]
    simp only [Option.bind_some]
    rw [if_neg (by omega), L_eqSteps R (by omega) (by omega)]
    simp only [Option.bind_some, if_true, laws_FnExactShorterSteps.j1, bne_self_eq_false, Bool.false_eq_true, if_false]
    obtain ⟨lb, eb, hb⟩ := L_markHeldSt R (by omega) (k := l.length + 4098) (by omega)
    rw [eb]
    simp only [Option.bind_some]
    rw [hb _ (by omega)]
    simp only [Option.bind_some]
    rw [if_neg (by omega)]
    simp only [if_true]
    rw [L_toSteps l (by omega) (by omega)]
    simp only [Option.bind_some]
    rw [e2]
    simp only [Option.bind_some]
    rw [L_eqSteps R (by omega) (by omega)]
    simp only [Option.bind_some, if_true, laws_FnExactShorterSteps.j2, bne_self_eq_false, Bool.false_eq_true, if_false]
    rw [hb _ (by omega)]
    simp only [Option.bind_some]
    rw [if_neg (by omega)]
    simp only [if_true]

end Go.Proofs.Yticnajjbmdfidaa.Pure
