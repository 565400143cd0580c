-- The plain law of reached prints: steps made for a print, with less light, made shorter, dodged and burnt.
import Derived.Test.YticnajjbmdfidaaQx3
import Derived.Test.YticnajjbmdfidaaQx4
import Derived.Test.YticnajjbmdfidaaQx5
import Derived.Test.YticnajjbmdfidaaQx7
import Derived.Test.YticnajjbmdfidaaQx9
import Derived.Test.YticnajjbmdfidaaArrSfP
import Derived.Test.YticnajjbmdfidaaArrPLP
namespace Go.Proofs.Yticnajjbmdfidaa.PL
open Go.RowKit Go.Proofs.Yticnajjbmdfidaa.Q Go.Proofs.YticnajjbmdfidaaW.PrintWords Go.Proofs.YticnajjbmdfidaaW.PrintLast Go.Proofs.YticnajjbmdfidaaW.PrintMore
set_option linter.unusedVariables false
set_option linter.unusedSimpArgs false
def D_find (m t : Int) : List S76 → Int → Int
  | [], _ => -1
  | x :: r, i => if x.f1 = t ∧ Go.bits .and .u64 x.f0 m = 0 then i else D_find m t r (i + 1)

def D_shPut (m t : Int) (o : List S76) : List S76 :=
  if D_find m t o 0 < 0 then o ++ [⟨m, t⟩] else o.set (D_find m t o 0).toNat ⟨Go.bits .or .u64 (rd_T76 o (D_find m t o 0)).f0 m, (rd_T76 o (D_find m t o 0)).f1⟩

def D_short : List S76 → List S76 → List S76
  | [], o => o
  | x :: r, o => if x.f0 = 0 then D_short r o else D_short r (D_shPut x.f0 x.f1 o)

theorem L_shPutLen (m t : Int) (o : List S76) : (D_shPut m t o).length ≤ o.length + 1 := by
  unfold D_shPut; split <;> simp

theorem L_shortLen : ∀ (l o : List S76), (D_short l o).length ≤ l.length + o.length
  | [], o => by simp [D_short]
  | x :: r, o => by
    unfold D_short
    split
    · have := L_shortLen r o; simp; omega
    · have := L_shortLen r (D_shPut x.f0 x.f1 o); have := L_shPutLen x.f0 x.f1 o; simp; omega

theorem L_idxFind (m t : Int) : ∀ (o : List S76) (i : Int), D_idx (D_shq m t) o i = some (D_find m t o i)
  | [], _ => rfl
  | x :: r, i => by
    simp only [D_idx, D_shq, Option.bind_some, decide_eq_true_eq, D_find]
    split
    · rfl
    · exact L_idxFind m t r (i + 1)

theorem L_findRange (m t : Int) : ∀ (o : List S76) (i : Int), 0 ≤ i → D_find m t o i = -1 ∨ (i ≤ D_find m t o i ∧ D_find m t o i < i + o.length)
  | [], _, _ => .inl rfl
  | x :: r, i, h => by
    unfold D_find
    split
    · exact .inr ⟨by omega, by simp; omega⟩
    · rcases L_findRange m t r (i + 1) (by omega) with e | e
      · exact .inl e
      · exact .inr ⟨by omega, by simp; omega⟩

theorem L_implShort (l : List S76) (hl : l.length ≤ 30) (d : Nat) : ∀ (n : Nat) (o : List S76) (i : Int), 0 ≤ i → i + d = l.length → d < n → o.length ≤ i →
    impl_ShorterSteps.l0 l n o i = some (D_short (l.drop i.toNat) o) := by
  induction d with
  | zero =>
    intro n o i h0 hd hn ho
    obtain ⟨n, rfl⟩ : ∃ m, n = m + 1 := ⟨n - 1, by omega⟩
    simp only [impl_ShorterSteps.l0]
    rw [if_neg (by omega), List.drop_eq_nil_of_le (by omega)]; rfl
  | succ d ih =>
    intro n o i h0 hd hn ho
    obtain ⟨n, rfl⟩ : ∃ m, n = m + 1 := ⟨n - 1, by omega⟩
    obtain ⟨hi, e⟩ := L_rdS (l := l) (i := i) h0 (by omega)
    simp only [impl_ShorterSteps.l0]
    rw [if_pos (by omega), L_w (x := i + 1) (by omega), List.drop_eq_getElem_cons hi, ← e]
    unfold D_short
    by_cases hz : (rd_T76 l i).f0 = 0
    · rw [if_pos hz, if_pos hz, ih n o (i + 1) (by omega) (by omega) (by omega) (by omega), show (i + 1).toNat = i.toNat + 1 by omega]
    · rw [if_neg hz, if_neg hz, L_idxFind]
      simp only [Option.bind_some]
      have hr := L_findRange (rd_T76 l i).f0 (rd_T76 l i).f1 o 0 (by omega)
      have hp := L_shPutLen (rd_T76 l i).f0 (rd_T76 l i).f1 o
      have := ih n (D_shPut (rd_T76 l i).f0 (rd_T76 l i).f1 o) (i + 1) (by omega) (by omega) (by omega) (by omega)
      rw [show (i + 1).toNat = i.toNat + 1 by omega] at this
      by_cases hj : D_find (rd_T76 l i).f0 (rd_T76 l i).f1 o 0 < 0
      · rw [if_pos hj, if_pos (by omega), ← this]
        unfold D_shPut; rw [if_pos hj]
      · rw [if_neg hj, if_pos (by omega), ← this]
        unfold D_shPut; rw [if_neg hj]

theorem L_specShortIn (l o : List S76) (i m t : Int) (R : List S76) (K : Nat) (h0 : 0 ≤ i) (hi : i < 100) (ho : o.length ≤ 100)
    (hR : ∀ k, K ≤ k → spec_ShorterSteps.l0 k l (D_shPut m t o) (i + 1) = some (R, 0)) (d : Nat) : ∀ (k : Nat) (p : Int), 0 ≤ p → p + d = o.length → D_find m t o 0 = D_find m t (o.drop p.toNat) p → K + 2 * d + 5 ≤ k →
    spec_ShorterSteps.l1 k l o i (-1) p m t = some (R, 0) := by
  induction d with
  | zero =>
    intro k p hp hd hf hk
    obtain ⟨k, rfl⟩ : ∃ q, k = q + 2 := ⟨k - 2, by omega⟩
    rw [List.drop_eq_nil_of_le (by omega)] at hf
    simp only [spec_ShorterSteps.l1, spec_ShorterSteps.j2]
    rw [if_neg (by omega)]
    simp only [Bool.false_eq_true, if_false]
    rw [if_pos (by omega), if_pos (by omega), L_w (x := i + 1) (by omega)]
    have := hR k (by omega)
    unfold D_shPut at this
    rw [if_pos (by rw [hf]; simp [D_find])] at this
    exact this
  | succ d ih =>
    intro k p hp hd hf hk
    obtain ⟨k, rfl⟩ : ∃ q, k = q + 2 := ⟨k - 2, by omega⟩
    obtain ⟨hlt, e⟩ := L_rdS (l := o) (i := p) hp (by omega)
    rw [List.drop_eq_getElem_cons hlt, ← e] at hf
    simp only [D_find] at hf
    simp only [spec_ShorterSteps.l1, spec_ShorterSteps.j2]
    rw [if_pos (by omega), show decide ((-1 : Int) < 0) = true from rfl]
    simp only [if_true]
    rw [if_pos hp, if_pos (by omega), L_w (x := p + 1) (by omega)]
    by_cases h1 : (rd_T76 o p).f1 = t
    · rw [if_pos h1]
      by_cases h2 : Go.bits .and .u64 (rd_T76 o p).f0 m = 0
      · rw [if_pos h2]
        rw [if_pos ⟨h1, h2⟩] at hf
        obtain ⟨k, rfl⟩ : ∃ q, k = q + 2 := ⟨k - 2, by omega⟩
        have := hR k (by omega)
        unfold D_shPut at this
        rw [if_neg (by omega), hf] at this
        simp only [spec_ShorterSteps.l1, spec_ShorterSteps.j2]
        have e2 : decide (p < 0) = false := decide_eq_false (by omega)
        rw [e2]
        simp only [Bool.false_eq_true, if_false]
        split <;> (rw [if_neg (by omega), if_pos (by omega), L_w (x := i + 1) (by omega)]; exact this)
      · rw [if_neg h2]
        rw [if_neg (fun h => h2 h.2)] at hf
        exact ih k (p + 1) (by omega) (by omega) (by rw [hf, show (p + 1).toNat = p.toNat + 1 by omega]) (by omega)
    · rw [if_neg h1]
      rw [if_neg (fun h => h1 h.1)] at hf
      exact ih k (p + 1) (by omega) (by omega) (by rw [hf, show (p + 1).toNat = p.toNat + 1 by omega]) (by omega)

theorem L_specShort (l : List S76) (hl : l.length ≤ 30) (d : Nat) : ∀ (k : Nat) (o : List S76) (i : Int), 0 ≤ i → i + d = l.length → 100 * d + 1 ≤ k → o.length ≤ i →
    spec_ShorterSteps.l0 k l o i = some (D_short (l.drop i.toNat) o, 0) := by
  induction d with
  | zero =>
    intro k o i h0 hd hn ho
    obtain ⟨k, rfl⟩ : ∃ m, k = m + 1 := ⟨k - 1, by omega⟩
    simp only [spec_ShorterSteps.l0]
    rw [if_neg (by omega), List.drop_eq_nil_of_le (by omega)]; rfl
  | succ d ih =>
    intro k o i h0 hd hn ho
    obtain ⟨k, rfl⟩ : ∃ m, k = m + 1 := ⟨k - 1, by omega⟩
    obtain ⟨hi, e⟩ := L_rdS (l := l) (i := i) h0 (by omega)
    simp only [spec_ShorterSteps.l0]
    rw [if_pos (by omega), if_pos h0, L_w (x := i + 1) (by omega), List.drop_eq_getElem_cons hi, ← e]
    unfold D_short
    by_cases hz : (rd_T76 l i).f0 = 0
    · rw [if_pos hz, if_pos hz, ih k o (i + 1) (by omega) (by omega) (by omega) (by omega), show (i + 1).toNat = i.toNat + 1 by omega]
    · rw [if_neg hz, if_neg hz]
      have hp := L_shPutLen (rd_T76 l i).f0 (rd_T76 l i).f1 o
      refine L_specShortIn l o i _ _ _ (100 * d + 1) h0 (by omega) (by omega) (fun q hq => ?_) o.length k 0 (by omega) (by omega) (by simp) (by omega)
      have := ih q (D_shPut (rd_T76 l i).f0 (rd_T76 l i).f1 o) (i + 1) (by omega) (by omega) (by omega) (by omega)
      rwa [show (i + 1).toNat = i.toNat + 1 by omega] at this

theorem L_shortSteps (l : List S76) (h8 : D_i8s l) (hn : l.length ≤ 140737488351232) : ∃ R c, R.length ≤ 30 ∧ impl_ShorterSteps.f l = some (R, c) ∧ (∀ k, l.length + 4000 ≤ k → spec_ShorterSteps.f k l = some (R, c)) ∧ (D_steps l → R = D_short l [] ∧ c = 0) := by
  by_cases h : D_steps l
  · have hl := h.2
    refine ⟨D_short l [], 0, by have := L_shortLen l []; simp at this; omega, ?_, fun k hk => ?_, fun _ => ⟨rfl, rfl⟩⟩
    · unfold impl_ShorterSteps.f
      rw [L_implSteps l h8, decide_eq_true h]
      simp only [Option.bind_some, if_true]
      rw [L_implShort l hl l.length (l.length + 1) [] 0 (by omega) (by omega) (by omega) (by simp)]; rfl
    · unfold spec_ShorterSteps.f
      rw [L_stepsOk l h8 hn (by omega), decide_eq_true h]
      simp only [Option.bind_some, if_true]
      rw [L_specShort l hl l.length k [] 0 (by omega) (by omega) (by omega) (by simp)]; rfl
  · refine ⟨[], 1, by simp, ?_, fun k hk => ?_, fun hh => absurd hh h⟩
    · unfold impl_ShorterSteps.f
      rw [L_implSteps l h8, decide_eq_false h]; rfl
    · unfold spec_ShorterSteps.f
      rw [L_stepsOk l h8 hn (by omega), decide_eq_false h]; rfl


theorem L_tmvAll : ∀ n : Nat, n < 37 → 1000 ≤ tmv n ∧ tmv n ≤ 4096000 := by decide

theorem L_tmv {k : Int} (h : 0 ≤ k ∧ k ≤ 36) : 1000 ≤ tmv k ∧ tmv k ≤ 4096000 := by
  obtain ⟨n, rfl⟩ : ∃ n : Nat, k = n := ⟨k.toNat, by omega⟩
  exact L_tmvAll n (by omega)

-- L_shortSteps
end Go.Proofs.Yticnajjbmdfidaa.PL
namespace Go.Proofs.Yticnajjbmdfidaa.Q
open Go.RowKit Go.Proofs.Yticnajjbmdfidaa.PL Go.Proofs.YticnajjbmdfidaaW.PrintWords Go.Proofs.YticnajjbmdfidaaW.PrintLast Go.Proofs.YticnajjbmdfidaaW.PrintMore
set_option linter.unusedVariables false
set_option linter.unusedSimpArgs false
/-- what the steps give a cell, in time -/
def D_sumAt (k : Int) : List S76 → Int
  | [] => 0
  | x :: r => (if D_bit x.f0 k then tmv x.f1 else 0) + D_sumAt k r

theorem L_sumApp (k : Int) : ∀ a b : List S76, D_sumAt k (a ++ b) = D_sumAt k a + D_sumAt k b
  | [], b => by simp [D_sumAt]
  | x :: r, b => by simp only [List.cons_append, D_sumAt]; rw [L_sumApp k r b]; omega

theorem L_sumZero (k : Int) : ∀ a : List S76, (∀ x ∈ a, ¬ D_bit x.f0 k) → D_sumAt k a = 0
  | [], _ => rfl
  | x :: r, h => by simp only [D_sumAt]; rw [if_neg (h x (by simp)), L_sumZero k r (fun y hy => h y (by simp [hy]))]; rfl

theorem L_sumRange (k : Int) : ∀ a : List S76, (∀ x ∈ a, 0 ≤ x.f1 ∧ x.f1 ≤ 36) → 0 ≤ D_sumAt k a ∧ D_sumAt k a ≤ 4096000 * a.length
  | [], _ => by simp [D_sumAt]
  | x :: r, h => by
    have := L_sumRange k r (fun y hy => h y (by simp [hy]))
    have := L_tmv (h x (by simp))
    simp only [D_sumAt, List.length_cons]
    split <;> omega

theorem L_innerRd (m t : Int) (ht : 0 ≤ t ∧ t ≤ 4096000) (i : Int) (i0 : 0 ≤ i) (i1 : i < 64) (d : Nat) : ∀ (ys : List Int) (k : Int), ys.length = 64 → 0 ≤ k → k + d = 64 → 0 ≤ rd ys i → (k ≤ i → rd ys i ≤ 1000000000000) → rd (D_innerFrom m t d ys k) i = rd ys i + (if k ≤ i ∧ D_bit m i then t else 0) := by
  induction d with
  | zero =>
    intro ys k hl hk hd h0 h1
    simp only [D_innerFrom]
    rw [if_neg (by omega)]; omega
  | succ d ih =>
    intro ys k hl hk hd h0 h1
    simp only [D_innerFrom]
    by_cases hb : D_bit m k
    · rw [if_pos hb]
      by_cases e : i = k
      · subst e
        have e1 : rd (ys.set i.toNat (wrap64 (rd ys i + t))) i = rd ys i + t := by
          rw [show wrap64 (rd ys i + t) = rd ys i + t by have := h1 (by omega); unfold wrap64; omega]
          unfold rd
          rw [List.getD_eq_getElem?_getD, List.getElem?_set_self (by omega)]; rfl
        rw [ih _ (i + 1) (by simp [hl]) (by omega) (by omega) (by omega) (fun h => by omega), e1, if_neg (by omega), if_pos ⟨by omega, hb⟩]; omega
      · have e1 : rd (ys.set k.toNat (wrap64 (rd ys k + t))) i = rd ys i := rd_setNe hk i0 (fun h => e h.symm)
        rw [ih _ (k + 1) (by simp [hl]) (by omega) (by omega) (by omega) (fun h => by have := h1 (by omega); omega), e1]
        congr 1
        by_cases q : k + 1 ≤ i ∧ D_bit m i
        · rw [if_pos q, if_pos ⟨by omega, q.2⟩]
        · rw [if_neg q, if_neg (fun h => q ⟨by omega, h.2⟩)]
    · rw [if_neg hb, ih ys (k + 1) hl (by omega) (by omega) h0 (fun h => h1 (by omega))]
      congr 1
      by_cases q : k + 1 ≤ i ∧ D_bit m i
      · rw [if_pos q, if_pos ⟨by omega, q.2⟩]
      · rw [if_neg q, if_neg (fun h => q ⟨by have : i ≠ k := fun e => hb (e ▸ h.2); omega, h.2⟩)]

theorem L_timesRd (i : Int) (i0 : 0 ≤ i) (i1 : i < 64) : ∀ (l : List S76) (ys : List Int), (∀ x ∈ l, 0 ≤ x.f1 ∧ x.f1 ≤ 36) → ys.length = 64 → 0 ≤ rd ys i → rd ys i + 4096000 * l.length ≤ 1000000000000 → rd (D_timesFrom l ys) i = rd ys i + D_sumAt i l
  | [], ys, _, _, _, _ => by simp [D_timesFrom, D_sumAt]
  | x :: r, ys, h, hl, h0, h1 => by
    have ht := L_tmv (h x (by simp))
    simp only [List.length_cons] at h1
    have e := L_innerRd x.f0 (tmv x.f1) (by omega) i i0 i1 64 ys 0 hl (by omega) (by omega) h0 (fun _ => by omega)
    simp only [D_timesFrom]
    by_cases hb : D_bit x.f0 i
    · rw [if_pos ⟨i0, hb⟩] at e
      rw [L_timesRd i i0 i1 r _ (fun y hy => h y (by simp [hy])) (by rw [D_inner_len]; exact hl) (by omega) (by omega), e]
      simp only [D_sumAt]; rw [if_pos hb]; omega
    · rw [if_neg (fun q => hb q.2)] at e
      rw [L_timesRd i i0 i1 r _ (fun y hy => h y (by simp [hy])) (by rw [D_inner_len]; exact hl) (by omega) (by omega), e]
      simp only [D_sumAt]; rw [if_neg hb]; omega

theorem L_timesAt {l : List S76} (h : ∀ x ∈ l, 0 ≤ x.f1 ∧ x.f1 ≤ 36) (hn : l.length ≤ 100) {i : Int} (i0 : 0 ≤ i) (i1 : i < 64) : rd (D_times l) i = D_sumAt i l := by
  have hz : rd (zer 64) i = 0 := by
    unfold zer rd
    rw [List.getD_eq_getElem?_getD, List.getElem?_replicate]
    split <;> rfl
  unfold D_times
  rw [L_timesRd i i0 i1 l (zer 64) h (zer_len 64) (by omega) (by omega), hz]; omega

theorem L_lightAt {l : List S76} (h : ∀ x ∈ l, 0 ≤ x.f1 ∧ x.f1 ≤ 36) (hn : l.length ≤ 100) {i : Int} (i0 : 0 ≤ i) (i1 : i < 64) : rd (D_light l) i = D_in (D_sumAt i l) := by
  rw [D_light_rd l i0 i1, L_timesAt h hn i0 i1]

theorem L_inTmv {k : Int} (h : 0 ≤ k ∧ k ≤ 36) : D_in (tmv k) = k :=
  (L_inUnique (k := k) (by omega) (fun _ => Int.le_refl _) (fun q => L_tmvLt h.1 (by omega) (by omega))).symm

theorem L_inMono {s t : Int} (h : s ≤ t) : D_in s ≤ D_in t := by
  obtain ⟨a1, a2, a3, a4⟩ := L_inSpec s
  obtain ⟨b1, b2, b3, b4⟩ := L_inSpec t
  by_cases q : D_in s ≤ D_in t
  · exact q
  · have c := a3 (by omega)
    have d := b4 (by omega)
    have := L_tmvMono (i := D_in t + 1) (j := D_in s) (by omega) (by omega) a2
    omega

theorem L_tmv19All : ∀ n : Nat, n < 20 → tmv n ≤ 80640 := by decide +kernel

theorem L_tmv19 {k : Int} (h : 0 ≤ k ∧ k ≤ 19) : tmv k ≤ 80640 := by
  have := L_tmv19All k.toNat (by omega)
  rwa [show ((k.toNat : Nat) : Int) = k by omega] at this

theorem L_sum19 (k : Int) : ∀ a : List S76, (∀ x ∈ a, 0 ≤ x.f1 ∧ x.f1 ≤ 19) → D_sumAt k a ≤ 80640 * a.length
  | [], _ => by simp [D_sumAt]
  | x :: r, h => by
    have := L_sum19 k r (fun y hy => h y (by simp [hy]))
    have := L_tmv19 (h x (by simp))
    simp only [D_sumAt, List.length_cons]
    split <;> omega

theorem L_light28 : D_in (80640 * 4) ≤ 28 := by decide +kernel

def D_sfTail (nd : Int → Int) : Nat → Int → List S76
  | 0, _ => []
  | d + 1, k => (if D_msk nd k = 0 then [] else [⟨D_msk nd k, k⟩]) ++ D_sfTail nd d (k + 1)

theorem L_sfTail (nd : Int → Int) (d : Nat) : ∀ (k : Int) (o : List S76), D_sfList nd d k o = o ++ D_sfTail nd d k := by
  induction d with
  | zero => intro k o; simp [D_sfList, D_sfTail]
  | succ d ih =>
    intro k o
    simp only [D_sfList, D_sfTail]
    rw [ih]
    split <;> simp

theorem L_sfDue (nd : Int → Int) : D_sfList nd 37 0 [] = D_sfTail nd 37 0 := by rw [L_sfTail]; rfl

theorem L_sfMem (nd : Int → Int) (d : Nat) : ∀ (k : Int) (x : S76), x ∈ D_sfTail nd d k → x.f0 = D_msk nd x.f1 ∧ x.f0 ≠ 0 ∧ k ≤ x.f1 ∧ x.f1 < k + d := by
  induction d with
  | zero => intro k x h; simp [D_sfTail] at h
  | succ d ih =>
    intro k x h
    simp only [D_sfTail, List.mem_append] at h
    rcases h with h | h
    · split at h
      · simp at h
      · rename_i hz
        obtain rfl := List.mem_singleton.1 h
        exact ⟨rfl, hz, by show k ≤ k; omega, by show k < k + _; omega⟩
    · obtain ⟨a, b, c, e⟩ := ih (k + 1) x h
      exact ⟨a, b, by omega, by omega⟩

theorem L_sfRise (nd : Int → Int) (d : Nat) : ∀ k : Int, (D_sfTail nd d k).Pairwise (fun a b => a.f1 < b.f1) := by
  induction d with
  | zero => intro k; simp [D_sfTail]
  | succ d ih =>
    intro k
    simp only [D_sfTail]
    split
    · exact ih (k + 1)
    · simp only [List.cons_append, List.nil_append, List.pairwise_cons]
      refine ⟨fun x hx => ?_, ih (k + 1)⟩
      have := (L_sfMem nd d (k + 1) x hx).2.2.1
      show k < x.f1
      omega

theorem L_mskBit (nd : Int → Int) (v : Int) {j : Int} (j0 : 0 ≤ j) (j1 : j < 64) : D_bit (D_msk nd v) j ↔ nd j = v := by
  obtain ⟨h1, h2⟩ := L_msk nd v
  rw [D_bit_tb h1 j0, h2 j j0 j1]
  simp

theorem L_mskNe (nd : Int → Int) {v : Int} (h : D_msk nd v ≠ 0) : ∃ j : Int, 0 ≤ j ∧ j < 64 ∧ nd j = v := by
  by_cases q : ∃ j : Int, 0 ≤ j ∧ j < 64 ∧ nd j = v
  · exact q
  · refine absurd (tb_ext (L_msk nd v).1 u64_zero (fun j j0 j1 => ?_)) h
    rw [(L_msk nd v).2 j j0 j1, tb_zero]
    exact decide_eq_false (fun e => q ⟨j, j0, j1, e⟩)

theorem L_sfSum (nd : Int → Int) {j : Int} (j0 : 0 ≤ j) (j1 : j < 64) (d : Nat) : ∀ k : Int, D_sumAt j (D_sfTail nd d k) = if k ≤ nd j ∧ nd j < k + d then tmv (nd j) else 0 := by
  induction d with
  | zero => intro k; simp only [D_sfTail, D_sumAt]; rw [if_neg (by omega)]
  | succ d ih =>
    intro k
    simp only [D_sfTail]
    rw [L_sumApp, ih (k + 1)]
    by_cases e : nd j = k
    · have hb : D_bit (D_msk nd k) j := (L_mskBit nd k j0 j1).2 e
      have hz : D_msk nd k ≠ 0 := by
        intro hz
        have := (D_bit_tb (L_msk nd k).1 j0).1 hb
        rw [hz, tb_zero] at this; cases this
      rw [if_neg hz, if_neg (by omega), if_pos (by omega)]
      simp only [D_sumAt]
      rw [if_pos hb, e]; omega
    · have hb : ¬ D_bit (D_msk nd k) j := fun h => e ((L_mskBit nd k j0 j1).1 h)
      have h0 : D_sumAt j (if D_msk nd k = 0 then [] else [⟨D_msk nd k, k⟩]) = 0 := by
        split
        · rfl
        · simp only [D_sumAt]; rw [if_neg hb]; rfl
      rw [h0]
      by_cases q : k + 1 ≤ nd j ∧ nd j < k + 1 + d
      · rw [if_pos q, if_pos (by omega)]; omega
      · rw [if_neg q, if_neg (by omega)]; omega

theorem L_dueSum (nd : Int → Int) {j : Int} (j0 : 0 ≤ j) (j1 : j < 64) (h : 0 ≤ nd j ∧ nd j ≤ 36) : D_sumAt j (D_sfTail nd 37 0) = tmv (nd j) := by
  rw [L_sfSum nd j0 j1, if_pos (by omega)]

theorem L_sfLen (nd : Int → Int) (hr : ∀ j : Int, 0 ≤ j → j < 64 → nd j ≤ 28) (d : Nat) : ∀ k : Int, 0 ≤ k → ((D_sfTail nd d k).length : Int) ≤ 29 - k ∨ D_sfTail nd d k = [] := by
  induction d with
  | zero => intro k h; exact .inr rfl
  | succ d ih =>
    intro k h
    simp only [D_sfTail]
    split
    · rcases ih (k + 1) (by omega) with q | q
      · exact .inl (by simp only [List.nil_append]; omega)
      · exact .inr (by simp [q])
    · rename_i hz
      obtain ⟨j, j0, j1, e⟩ := L_mskNe nd hz
      have := hr j j0 j1
      rcases ih (k + 1) (by omega) with q | q
      · exact .inl (by simp only [List.length_append, List.length_singleton]; omega)
      · exact .inl (by rw [q]; simp; omega)

theorem L_dueSteps (nd : Int → Int) (hr : ∀ j : Int, 0 ≤ j → j < 64 → nd j ≤ 28) : D_steps (D_sfTail nd 37 0) := by
  refine ⟨fun x hx => ?_, ?_⟩
  · have := L_sfMem nd 37 0 x hx; omega
  · rcases L_sfLen nd hr 37 0 (by omega) with q | q
    · omega
    · rw [q]; simp

theorem L_sumSet (j : Int) (y : S76) : ∀ (l : List S76) (i : Nat) (h : i < l.length), D_sumAt j (l.set i y) = D_sumAt j l - (if D_bit l[i].f0 j then tmv l[i].f1 else 0) + (if D_bit y.f0 j then tmv y.f1 else 0)
  | x :: r, 0, _ => by simp only [List.set_cons_zero, D_sumAt, List.getElem_cons_zero]; omega
  | x :: r, i + 1, h => by
    simp only [List.set_cons_succ, D_sumAt, List.getElem_cons_succ]
    rw [L_sumSet j y r i (by simpa using h)]; omega

theorem L_dueLess (nd : Int → Int) (hr : ∀ j : Int, 0 ≤ j → j < 64 → 0 ≤ nd j ∧ nd j ≤ 36) {i : Nat} (hi : i < (D_sfTail nd 37 0).length) {j : Int} (j0 : 0 ≤ j) (j1 : j < 64) (hb : D_bit ((D_sfTail nd 37 0)[i]).f0 j) (t : Int) :
    D_sumAt j ((D_sfTail nd 37 0).set i ⟨((D_sfTail nd 37 0)[i]).f0, t⟩) = tmv t ∧ nd j = ((D_sfTail nd 37 0)[i]).f1 := by
  have hm := L_sfMem nd 37 0 _ (List.getElem_mem hi)
  have e : nd j = ((D_sfTail nd 37 0)[i]).f1 := by
    rw [hm.1] at hb
    exact (L_mskBit nd _ j0 j1).1 hb
  refine ⟨?_, e⟩
  rw [L_sumSet j _ _ i hi, if_pos hb, if_pos hb, L_dueSum nd j0 j1 (hr j j0 j1), e]
  show _ - _ + tmv t = tmv t
  omega

/-- the masks of the first n steps, laid onto each other -/
def D_orTo (l : List S76) : Nat → Int
  | 0 => 0
  | n + 1 => Go.bits .or .u64 (D_orTo l n) (rd_T76 l n).f0

theorem L_orTo (l : List S76) (hu : ∀ x ∈ l, U64 x.f0) : ∀ n : Nat, n ≤ l.length → U64 (D_orTo l n) ∧ ∀ j : Int, (tb (D_orTo l n) j = true ↔ ∃ (i : Nat) (h : i < l.length), i < n ∧ tb l[i].f0 j = true)
  | 0, _ => ⟨u64_zero, fun j => by simp only [D_orTo]; rw [tb_zero]; simp⟩
  | n + 1, hn => by
    obtain ⟨a, b⟩ := L_orTo l hu n (by omega)
    have e : rd_T76 l n = l[n] := by
      unfold rd_T76
      rw [List.getD_eq_getElem?_getD, Int.toNat_natCast, List.getElem?_eq_getElem (by omega)]; rfl
    have u := hu l[n] (List.getElem_mem _)
    simp only [D_orTo]
    rw [e]
    refine ⟨u64_or a u, fun j => ?_⟩
    rw [tb_or a u, Bool.or_eq_true, b j]
    constructor
    · rintro (⟨i, h, h1, h2⟩ | h)
      · exact ⟨i, h, by omega, h2⟩
      · exact ⟨n, by omega, by omega, h⟩
    · rintro ⟨i, h, h1, h2⟩
      by_cases q : i = n
      · subst q; exact .inr h2
      · exact .inl ⟨i, h, by omega, h2⟩

theorem L_dueU (nd : Int → Int) : ∀ x ∈ D_sfTail nd 37 0, U64 x.f0 := fun x hx => by
  rw [(L_sfMem nd 37 0 x hx).1]; exact (L_msk nd _).1

theorem L_dueApart (nd : Int → Int) {n : Nat} (hn : n < (D_sfTail nd 37 0).length) : Go.bits .and .u64 (D_orTo (D_sfTail nd 37 0) n) ((D_sfTail nd 37 0)[n]).f0 = 0 := by
  obtain ⟨a, b⟩ := L_orTo _ (L_dueU nd) n (by omega)
  have u := L_dueU nd _ (List.getElem_mem hn)
  refine tb_ext (u64_and a u) u64_zero (fun j j0 j1 => ?_)
  rw [tb_and a u, tb_zero]
  by_cases q : tb (D_orTo (D_sfTail nd 37 0) n) j = true
  · obtain ⟨i, h, h1, h2⟩ := (b j).1 q
    have m1 := L_sfMem nd 37 0 _ (List.getElem_mem h)
    have m2 := L_sfMem nd 37 0 _ (List.getElem_mem hn)
    have lt := List.pairwise_iff_getElem.1 (L_sfRise nd 37 0) i n h hn h1
    rw [m1.1, (L_msk nd _).2 j j0 j1, decide_eq_true_eq] at h2
    rw [m2.1, (L_msk nd _).2 j j0 j1, decide_eq_false (by omega)]
    simp
  · rw [Bool.not_eq_true] at q
    rw [q]; rfl

theorem L_dueAll (nd : Int → Int) (hr : ∀ j : Int, 0 ≤ j → j < 64 → 0 ≤ nd j ∧ nd j ≤ 36) : D_orTo (D_sfTail nd 37 0) (D_sfTail nd 37 0).length = 18446744073709551615 := by
  obtain ⟨a, b⟩ := L_orTo _ (L_dueU nd) (D_sfTail nd 37 0).length (by omega)
  have e : (18446744073709551615 : Int) = 18446744073709551615 - 0 := by omega
  rw [e]
  refine tb_ext a (by unfold U64; omega) (fun j j0 j1 => ?_)
  rw [tb_not u64_zero j0 j1, tb_zero]
  refine (b j).2 ?_
  have hs := L_dueSum nd j0 j1 (hr j j0 j1)
  have hp := (L_tmv (hr j j0 j1)).1
  by_cases q : ∀ x ∈ D_sfTail nd 37 0, ¬ D_bit x.f0 j
  · rw [L_sumZero j _ q] at hs; omega
  · obtain ⟨x, hx⟩ := Classical.not_forall.1 q
    obtain ⟨hx1, hx2⟩ := Classical.not_imp.1 hx
    obtain ⟨i, hi, rfl⟩ := List.getElem_of_mem hx1
    exact ⟨i, hi, hi, (D_bit_tb (L_dueU nd _ hx1) j0).1 (Classical.not_not.1 hx2)⟩

/-- the light that a print got is enough for it -/
theorem L_needDrawn {xs : List Int} {l : List S91} {st : List S76} (hd : D_dense xs) (hx : xs.length = 64) (hc : D_curve l = true) (hs : st.length ≤ 4) (h19 : ∀ x ∈ st, 0 ≤ x.f1 ∧ x.f1 ≤ 19) {j : Int} (j0 : 0 ≤ j) (j1 : j < 64) : D_need l xs (D_from xs l st) j ≤ 28 := by
  have h36 : ∀ x ∈ st, 0 ≤ x.f1 ∧ x.f1 ≤ 36 := fun x hx => by have := h19 x hx; omega
  have ht : rd (D_from xs l st) j = D_cell l (rd xs j) (rd (D_light st) j) := by unfold D_from; rw [rd_tab j0 (by omega)]
  have hL : rd (D_light st) j ≤ 28 := by
    rw [L_lightAt h36 (by omega) j0 j1]
    have h1 := L_sum19 j st h19
    have h2 : D_sumAt j st ≤ 80640 * 4 := by omega
    have := L_inMono h2; have := L_light28; omega
  have hL0 : -1 ≤ rd (D_light st) j := by rw [L_lightAt h36 (by omega) j0 j1]; exact (L_inSpec _).1
  obtain ⟨a1, a2, a3, a4⟩ := L_needFrom (fun k => D_cell l (rd xs j) k) (rd (D_from xs l st) j) 37 0
  unfold D_need
  by_cases q : rd (D_light st) j < 0
  · have hden : 0 ≤ rd xs j ∧ rd xs j ≤ 400 := hd _ (by unfold rd; rw [List.getD_eq_getElem?_getD, List.getElem?_eq_getElem (by omega)]; exact List.getElem_mem _)
    have e1 : rd (D_from xs l st) j = D_at l (-200) := by rw [ht]; unfold D_cell; rw [if_pos q]
    have e2 : rd (D_from xs l st) j ≤ D_cell l (rd xs j) 0 := by
      rw [e1]; unfold D_cell; rw [if_neg (by omega)]
      exact L_atMono hc (by omega)
    by_cases z : 0 < D_needFrom (fun k => D_cell l (rd xs j) k) (rd (D_from xs l st) j) 37 0
    · have := a3 0 (by omega) z; omega
    · omega
  · by_cases z : rd (D_light st) j < D_needFrom (fun k => D_cell l (rd xs j) k) (rd (D_from xs l st) j) 37 0
    · have := a3 _ (by omega) z; rw [ht] at this; omega
    · omega

theorem L_needCell {xs ts : List Int} {l : List S91} {j : Int} (h : D_need l xs ts j ≤ 36) : rd ts j ≤ D_cell l (rd xs j) (D_need l xs ts j) ∧ ∀ k, 0 ≤ k → k < D_need l xs ts j → D_cell l (rd xs j) k < rd ts j := by
  obtain ⟨a1, a2, a3, a4⟩ := L_needFrom (fun k => D_cell l (rd xs j) k) (rd ts j) 37 0
  unfold D_need at h ⊢
  exact ⟨a4 (by omega), fun k k0 k1 => a3 k k0 k1⟩

theorem L_dueReach {xs ts : List Int} {l : List S91} (hr : ∀ j : Int, 0 ≤ j → j < 64 → D_need l xs ts j ≤ 28) {j : Int} (j0 : 0 ≤ j) (j1 : j < 64) : rd ts j ≤ rd (D_from xs l (D_sfTail (D_need l xs ts) 37 0)) j := by
  have hs := L_dueSteps (D_need l xs ts) hr
  have h0 := L_needRange l xs ts j
  have h1 := hr j j0 j1
  unfold D_from
  rw [rd_tab j0 (by omega), L_lightAt hs.1 (by have := hs.2; omega) j0 j1, L_dueSum _ j0 j1 (by omega), L_inTmv (by omega)]
  exact (L_needCell (by omega)).1

theorem L_lessSteps {nd : Int → Int} (hr : ∀ j : Int, 0 ≤ j → j < 64 → nd j ≤ 28) {i : Nat} (hi : i < (D_sfTail nd 37 0).length) (m : Int) (h : 0 < ((D_sfTail nd 37 0)[i]).f1) : D_steps ((D_sfTail nd 37 0).set i ⟨m, ((D_sfTail nd 37 0)[i]).f1 - 1⟩) := by
  obtain ⟨a, b⟩ := L_dueSteps nd hr
  have := a _ (List.getElem_mem hi)
  refine ⟨fun x hx => ?_, by simpa using b⟩
  rcases List.mem_or_eq_of_mem_set hx with q | q
  · exact a x q
  · rw [q]; show 0 ≤ _ - 1 ∧ _ - 1 ≤ (36 : Int); omega

theorem L_dueFails {xs ts : List Int} {l : List S91} (hr : ∀ j : Int, 0 ≤ j → j < 64 → D_need l xs ts j ≤ 28) {i : Nat} (hi : i < (D_sfTail (D_need l xs ts) 37 0).length) (h : 0 < ((D_sfTail (D_need l xs ts) 37 0)[i]).f1) {j : Int} (j0 : 0 ≤ j) (j1 : j < 64) (hb : D_bit ((D_sfTail (D_need l xs ts) 37 0)[i]).f0 j) :
    rd (D_from xs l ((D_sfTail (D_need l xs ts) 37 0).set i ⟨((D_sfTail (D_need l xs ts) 37 0)[i]).f0, ((D_sfTail (D_need l xs ts) 37 0)[i]).f1 - 1⟩)) j < rd ts j := by
  have hs := L_lessSteps hr hi ((D_sfTail (D_need l xs ts) 37 0)[i]).f0 h
  have h0 := L_needRange l xs ts j
  have h1 := hr j j0 j1
  obtain ⟨e1, e2⟩ := L_dueLess (D_need l xs ts) (fun j j0 j1 => by have := L_needRange l xs ts j; have := hr j j0 j1; omega) hi j0 j1 hb (((D_sfTail (D_need l xs ts) 37 0)[i]).f1 - 1)
  unfold D_from
  rw [rd_tab j0 (by omega), L_lightAt hs.1 (by have := hs.2; omega) j0 j1, e1, L_inTmv (by omega)]
  exact (L_needCell (by omega)).2 _ (by omega) (by omega)

-- shorter steps
theorem L_findSpec (m t : Int) : ∀ (o : List S76) (i : Int), 0 ≤ i → 0 ≤ D_find m t o i → ∃ (p : Nat) (h : p < o.length), D_find m t o i = i + p ∧ o[p].f1 = t ∧ Go.bits .and .u64 o[p].f0 m = 0
  | [], i, h, q => by simp [D_find] at q
  | x :: r, i, h, q => by
    unfold D_find at q ⊢
    split
    · rename_i c; exact ⟨0, by simp, by simp, c.1, c.2⟩
    · rename_i c
      rw [if_neg c] at q
      obtain ⟨p, hp, a, b, d⟩ := L_findSpec m t r (i + 1) (by omega) q
      exact ⟨p + 1, by simpa using hp, by rw [a]; push_cast; omega, b, d⟩

theorem L_findHit (m t : Int) : ∀ (o : List S76) (i : Int) (x : S76), 0 ≤ i → x ∈ o → x.f1 = t → Go.bits .and .u64 x.f0 m = 0 → 0 ≤ D_find m t o i
  | [], _, _, _, h, _, _ => by simp at h
  | y :: r, i, x, h0, h, a, b => by
    unfold D_find
    split
    · exact h0
    · rename_i c
      rcases List.mem_cons.1 h with e | e
      · subst e; exact absurd ⟨a, b⟩ c
      · exact L_findHit m t r (i + 1) x (by omega) e a b

theorem L_shPutAll {m t : Int} {o : List S76} (hm : U64 m) (ht : 0 ≤ t ∧ t ≤ 36) (ho : ∀ x ∈ o, U64 x.f0 ∧ 0 ≤ x.f1 ∧ x.f1 ≤ 36) : (∀ x ∈ D_shPut m t o, U64 x.f0 ∧ 0 ≤ x.f1 ∧ x.f1 ≤ 36) ∧ ∀ j : Int, 0 ≤ j → j < 64 → D_sumAt j (D_shPut m t o) = D_sumAt j o + (if D_bit m j then tmv t else 0) := by
  unfold D_shPut
  by_cases q : D_find m t o 0 < 0
  · rw [if_pos q]
    refine ⟨fun x hx => ?_, fun j j0 j1 => ?_⟩
    · rcases List.mem_append.1 hx with h | h
      · exact ho x h
      · obtain rfl := List.mem_singleton.1 h; exact ⟨hm, ht⟩
    · rw [L_sumApp]; simp only [D_sumAt]; omega
  · rw [if_neg q]
    obtain ⟨p, hp, e, a, b⟩ := L_findSpec m t o 0 (by omega) (by omega)
    have er : rd_T76 o (D_find m t o 0) = o[p] := by
      unfold rd_T76
      rw [e, List.getD_eq_getElem?_getD, show ((0 : Int) + (p : Int)).toNat = p by omega, List.getElem?_eq_getElem hp]; rfl
    have hpo := ho o[p] (List.getElem_mem hp)
    rw [er, show (D_find m t o 0).toNat = p by omega]
    refine ⟨fun x hx => ?_, fun j j0 j1 => ?_⟩
    · rcases List.mem_or_eq_of_mem_set hx with h | h
      · exact ho x h
      · rw [h]; exact ⟨u64_or hpo.1 hm, hpo.2⟩
    · rw [L_sumSet j _ o p hp]
      have hz : (tb o[p].f0 j && tb m j) = false := by rw [← tb_and hpo.1 hm, b, tb_zero]
      have b1 := D_bit_tb hpo.1 j0
      have b2 := D_bit_tb hm j0
      have b3 := D_bit_tb (u64_or hpo.1 hm) j0
      rw [tb_or hpo.1 hm] at b3
      dsimp only
      rw [a]
      by_cases c1 : tb o[p].f0 j = true
      · rw [c1, Bool.true_and] at hz
        rw [if_pos (b1.2 c1), if_pos (b3.2 (by rw [c1]; rfl)), if_neg (fun h => by rw [b2.1 h] at hz; cases hz)]; omega
      · rw [if_neg (fun h => c1 (b1.1 h))]
        by_cases c2 : tb m j = true
        · rw [if_pos (b3.2 (by rw [c2]; simp)), if_pos (b2.2 c2)]; omega
        · rw [if_neg (fun h => by have := b3.1 h; rw [Bool.or_eq_true] at this; exact this.elim c1 c2), if_neg (fun h => c2 (b2.1 h))]; omega

theorem L_shortAll : ∀ (l o : List S76), (∀ x ∈ l, U64 x.f0 ∧ 0 ≤ x.f1 ∧ x.f1 ≤ 36) → (∀ x ∈ o, U64 x.f0 ∧ 0 ≤ x.f1 ∧ x.f1 ≤ 36) → (∀ x ∈ D_short l o, U64 x.f0 ∧ 0 ≤ x.f1 ∧ x.f1 ≤ 36) ∧ ∀ j : Int, 0 ≤ j → j < 64 → D_sumAt j (D_short l o) = D_sumAt j o + D_sumAt j l
  | [], o, _, ho => ⟨ho, fun j _ _ => by simp [D_short, D_sumAt]⟩
  | x :: r, o, hl, ho => by
    have hx := hl x (by simp)
    have hr : ∀ y ∈ r, U64 y.f0 ∧ 0 ≤ y.f1 ∧ y.f1 ≤ 36 := fun y hy => hl y (by simp [hy])
    unfold D_short
    by_cases z : x.f0 = 0
    · rw [if_pos z]
      obtain ⟨a, b⟩ := L_shortAll r o hr ho
      refine ⟨a, fun j j0 j1 => ?_⟩
      rw [b j j0 j1]; simp only [D_sumAt]
      rw [if_neg (fun h => by have := (D_bit_tb hx.1 j0).1 h; rw [z, tb_zero] at this; cases this)]; omega
    · rw [if_neg z]
      obtain ⟨p1, p2⟩ := L_shPutAll hx.1 hx.2 ho
      obtain ⟨a, b⟩ := L_shortAll r _ hr p1
      refine ⟨a, fun j j0 j1 => ?_⟩
      rw [b j j0 j1, p2 j j0 j1]; simp only [D_sumAt]; omega

theorem L_shortApp : ∀ (a b o : List S76), D_short (a ++ b) o = D_short b (D_short a o)
  | [], b, o => rfl
  | x :: r, b, o => by
    simp only [List.cons_append, D_short]
    split
    · exact L_shortApp r b o
    · exact L_shortApp r b _

theorem L_shPutHit {m t : Int} {o : List S76} (h : 0 ≤ D_find m t o 0) : (D_shPut m t o).length = o.length := by
  unfold D_shPut; rw [if_neg (by omega)]; simp

theorem L_short3 (o : List S76) : (D_short [⟨0, 3⟩, ⟨5, 3⟩, ⟨10, 3⟩] o).length ≤ o.length + 1 := by
  simp only [D_short]
  rw [if_pos trivial, if_neg (by decide), if_neg (by decide)]
  by_cases q : 0 ≤ D_find 5 3 o 0
  · have := L_shPutHit q
    have := L_shPutLen 10 3 (D_shPut 5 3 o)
    omega
  · have e : D_shPut 5 3 o = o ++ [⟨5, 3⟩] := by unfold D_shPut; rw [if_pos (by omega)]
    rw [e, L_shPutHit (L_findHit 10 3 _ 0 ⟨5, 3⟩ (by omega) (by simp) rfl (by decide +kernel))]
    simp

theorem L_shorterThree {st : List S76} (h : ∀ x ∈ st, U64 x.f0 ∧ 0 ≤ x.f1 ∧ x.f1 ≤ 36) (hl : st.length ≤ 4) :
    (D_short (st ++ [⟨0, 3⟩, ⟨5, 3⟩, ⟨10, 3⟩]) []).length + 2 ≤ (st ++ [(⟨0, 3⟩ : S76), ⟨5, 3⟩, ⟨10, 3⟩]).length ∧ D_steps (st ++ [⟨0, 3⟩, ⟨5, 3⟩, ⟨10, 3⟩]) ∧ D_steps (D_short (st ++ [⟨0, 3⟩, ⟨5, 3⟩, ⟨10, 3⟩]) []) ∧ D_times (D_short (st ++ [⟨0, 3⟩, ⟨5, 3⟩, ⟨10, 3⟩]) []) = D_times (st ++ [⟨0, 3⟩, ⟨5, 3⟩, ⟨10, 3⟩]) := by
  have h3 : ∀ x ∈ st ++ [(⟨0, 3⟩ : S76), ⟨5, 3⟩, ⟨10, 3⟩], U64 x.f0 ∧ 0 ≤ x.f1 ∧ x.f1 ≤ 36 := by
    intro x hx
    rcases List.mem_append.1 hx with q | q
    · exact h x q
    · simp only [List.mem_cons, List.not_mem_nil, or_false] at q
      rcases q with rfl | rfl | rfl <;> (refine ⟨?_, by decide, by decide⟩; unfold U64; decide)
  obtain ⟨a, b⟩ := L_shortAll _ [] h3 (by simp)
  have hlen : (D_short (st ++ [⟨0, 3⟩, ⟨5, 3⟩, ⟨10, 3⟩]) []).length ≤ st.length + 1 := by
    rw [L_shortApp]
    have := L_short3 (D_short st [])
    have := L_shortLen st []
    simp only [List.length_nil] at this
    omega
  refine ⟨by simp; omega, ⟨fun x hx => (h3 x hx).2, by simp; omega⟩, ⟨fun x hx => (a x hx).2, by omega⟩, ?_⟩
  have l1 := D_timesLen (D_short (st ++ [⟨0, 3⟩, ⟨5, 3⟩, ⟨10, 3⟩]) [])
  have l2 := D_timesLen (st ++ [(⟨0, 3⟩ : S76), ⟨5, 3⟩, ⟨10, 3⟩])
  refine List.ext_getElem (by rw [l1, l2]) (fun n n1 n2 => ?_)
  have e1 := L_timesAt (l := D_short (st ++ [⟨0, 3⟩, ⟨5, 3⟩, ⟨10, 3⟩]) []) (fun x hx => (a x hx).2) (by omega) (i := (n : Int)) (by omega) (by omega)
  have e2 := L_timesAt (l := st ++ [⟨0, 3⟩, ⟨5, 3⟩, ⟨10, 3⟩]) (fun x hx => (h3 x hx).2) (by simp; omega) (i := (n : Int)) (by omega) (by omega)
  rw [b n (by omega) (by omega)] at e1
  simp only [D_sumAt, Int.zero_add] at e1
  rw [← e2] at e1
  unfold rd at e1
  rw [List.getD_eq_getElem?_getD, List.getD_eq_getElem?_getD, Int.toNat_natCast, List.getElem?_eq_getElem n1, List.getElem?_eq_getElem n2] at e1
  exact e1

-- dodged and burnt steps
theorem L_dodged {m T H : Int} (hm : U64 m) (hT : 0 ≤ T ∧ T ≤ 36) (hH : 0 ≤ H ∧ H ≤ 36) {j : Int} (j0 : 0 ≤ j) (j1 : j < 64) : rd (D_light [⟨18446744073709551615 - m, T⟩, ⟨m, H⟩]) j = if D_bit m j then H else T := by
  rw [L_lightAt (by intro x hx; simp only [List.mem_cons, List.not_mem_nil, or_false] at hx; rcases hx with rfl | rfl; · exact hT
                    · exact hH) (by simp) j0 j1]
  have hn : U64 (18446744073709551615 - m) := by unfold U64 at hm ⊢; omega
  have b1 := D_bit_tb hn j0
  rw [tb_not hm j0 j1] at b1
  have b2 := D_bit_tb hm j0
  simp only [D_sumAt]
  by_cases q : tb m j = true
  · rw [if_neg (fun h => by have := b1.1 h; rw [q] at this; cases this), if_pos (b2.2 q), if_pos (b2.2 q), show (0 : Int) + (tmv H + 0) = tmv H by omega, L_inTmv hH]
  · rw [if_pos (b1.2 (by rw [Bool.not_eq_true] at q; rw [q]; rfl)), if_neg (fun h => q (b2.1 h)), if_neg (fun h => q (b2.1 h)), show tmv T + ((0 : Int) + 0) = tmv T by omega, L_inTmv hT]

theorem L_burnt {m T H : Int} (hm : U64 m) (hT : 0 ≤ T ∧ T ≤ 36) (hH : 0 ≤ H ∧ H ≤ 36) {j : Int} (j0 : 0 ≤ j) (j1 : j < 64) : T ≤ rd (D_light [⟨18446744073709551615, T⟩, ⟨m, H⟩]) j ∧ (¬ D_bit m j → rd (D_light [⟨18446744073709551615, T⟩, ⟨m, H⟩]) j = T) := by
  rw [L_lightAt (by intro x hx; simp only [List.mem_cons, List.not_mem_nil, or_false] at hx; rcases hx with rfl | rfl; · exact hT
                    · exact hH) (by simp) j0 j1]
  have hn : U64 (18446744073709551615 - 0) := by unfold U64; omega
  have b1 := D_bit_tb hn j0
  rw [tb_not u64_zero j0 j1, tb_zero] at b1
  have hb : D_bit 18446744073709551615 j := b1.2 rfl
  simp only [D_sumAt]
  rw [if_pos hb]
  have hp := (L_tmv hH).1
  refine ⟨?_, fun q => ?_⟩
  · have := L_inTmv hT
    have h2 : tmv T ≤ tmv T + ((if D_bit m j then tmv H else 0) + 0) := by split <;> omega
    have := L_inMono h2
    omega
  · rw [if_neg q, show tmv T + ((0 : Int) + 0) = tmv T by omega, L_inTmv hT]
theorem L_rdNat {l : List S76} {i : Int} (h0 : 0 ≤ i) (h1 : i < l.length) : ∃ (n : Nat) (h : n < l.length), i = n ∧ rd_T76 l i = l[n] := by
  refine ⟨i.toNat, by omega, by omega, ?_⟩
  unfold rd_T76
  rw [List.getD_eq_getElem?_getD, List.getElem?_eq_getElem (by omega)]; rfl

/-- the steps that are made for a print that was drawn: all that the law asks of them -/
theorem L_reached {xs : List Int} {l : List S91} {st : List S76} (hd : D_dense xs) (hx : xs.length = 64) (hc : D_curve l = true) (hT : D_dense (D_from xs l st)) (hs : st.length ≤ 4) (h19 : ∀ x ∈ st, 0 ≤ x.f1 ∧ x.f1 ≤ 19) :
    ∃ du : List S76, D_stepsFor xs l (D_from xs l st) = (du, 0) ∧ D_steps du ∧ (∀ i : Int, 0 ≤ i → i < du.length →
      ((rd_T76 du i).f0 ≠ 0 ∧ 0 ≤ (rd_T76 du i).f1 ∧ (rd_T76 du i).f1 ≤ 36) ∧ Go.bits .and .u64 (D_orTo du i.toNat) (rd_T76 du i).f0 = 0 ∧ (0 < i → (rd_T76 du (i - 1)).f1 < (rd_T76 du i).f1) ∧
      (0 < (rd_T76 du i).f1 → D_steps (du.set i.toNat ⟨(rd_T76 du i).f0, (rd_T76 du i).f1 - 1⟩) ∧ ∀ j : Int, 0 ≤ j → j < 64 → D_bit (rd_T76 du i).f0 j → rd (D_from xs l (du.set i.toNat ⟨(rd_T76 du i).f0, (rd_T76 du i).f1 - 1⟩)) j < rd (D_from xs l st) j)) ∧
      (D_orTo du du.length = 18446744073709551615) ∧ (∀ j : Int, 0 ≤ j → j < 64 → rd (D_from xs l st) j ≤ rd (D_from xs l du) j) := by
  have hr : ∀ j : Int, 0 ≤ j → j < 64 → D_need l xs (D_from xs l st) j ≤ 28 := fun j j0 j1 => L_needDrawn hd hx hc hs h19 j0 j1
  have hr2 : ∀ j : Int, 0 ≤ j → j < 64 → 0 ≤ D_need l xs (D_from xs l st) j ∧ D_need l xs (D_from xs l st) j ≤ 36 := fun j j0 j1 => by have := L_needRange l xs (D_from xs l st) j; have := hr j j0 j1; omega
  have hst := L_dueSteps (D_need l xs (D_from xs l st)) hr
  refine ⟨D_sfTail (D_need l xs (D_from xs l st)) 37 0, ?_, hst, fun i i0 i1 => ?_, L_dueAll _ hr2, fun j j0 j1 => L_dueReach hr j0 j1⟩
  · unfold D_stepsFor
    rw [if_pos ⟨hd, hc, hT⟩, if_neg (fun ⟨i, hi, e⟩ => by have := hr i (by omega) (by omega); omega), L_sfDue]
  · obtain ⟨n, hn, rfl, e⟩ := L_rdNat i0 i1
    rw [e, Int.toNat_natCast]
    have hm := L_sfMem _ 37 0 _ (List.getElem_mem hn)
    refine ⟨⟨hm.2.1, hst.1 _ (List.getElem_mem hn)⟩, L_dueApart _ hn, fun h0 => ?_, fun h0 => ⟨L_lessSteps hr hn _ h0, fun j j0 j1 hb => L_dueFails hr hn h0 j0 j1 hb⟩⟩
    obtain ⟨m, hm2, e2, e3⟩ := L_rdNat (l := D_sfTail (D_need l xs (D_from xs l st)) 37 0) (i := (n : Int) - 1) (by omega) (by omega)
    rw [e3]
    exact List.pairwise_iff_getElem.1 (L_sfRise _ 37 0) m n hm2 hn (by omega)
end Go.Proofs.Yticnajjbmdfidaa.Q
