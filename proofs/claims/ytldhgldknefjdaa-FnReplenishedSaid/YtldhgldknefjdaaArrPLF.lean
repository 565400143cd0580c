-- Plain lemmas on baths that are replenished.
import Derived.Test.YtldhgldknefjdaaQx4
import Derived.Test.YtldhgldknefjdaaQx5
import Derived.Test.YtldhgldknefjdaaQx11
import Derived.Test.YtldhgldknefjdaaQx12
import Derived.Test.YtldhgldknefjdaaQx14
import Derived.Test.YtldhgldknefjdaaQx15
import Derived.Test.YtldhgldknefjdaaQx16
import Derived.Test.YtldhgldknefjdaaQx17
import Derived.Test.YtldhgldknefjdaaArrKit
namespace Go.Proofs.Ytldhgldknefjdaa.PL
open Go.RowKit Go.Proofs.Ytldhgldknefjdaa.Q Go.Proofs.YtldhgldknefjdaaW.PrintWords Go.Proofs.YtldhgldknefjdaaW.PrintLast Go.Proofs.YtldhgldknefjdaaW.PrintMore
set_option linter.unusedVariables false
set_option linter.unusedSimpArgs false
theorem L_rdByte {l : List Int} (hl : ∀ x ∈ l, 0 ≤ x ∧ x ≤ 255) (i : Int) : 0 ≤ rd l i ∧ rd l i ≤ 255 := by
  unfold rd
  by_cases h : i.toNat < l.length
  · have := hl _ (List.getElem_mem h)
    simpa [List.getD, List.getElem?_eq_getElem h] using this
  · simp [List.getD, List.getElem?_eq_none (Nat.le_of_not_lt h)]

theorem L_w {x : Int} (h : -9223372036854775808 ≤ x ∧ x ≤ 9223372036854775807) : wrap64 x = x := by unfold wrap64; omega

theorem L_and255 (x : Int) : 0 ≤ Go.bits .and .u64 (IntKind.u64.wrap x / 1099511627776) 255 ∧ Go.bits .and .u64 (IntKind.u64.wrap x / 1099511627776) 255 ≤ 255 := by
  rw [IntKind.wrap_u64]
  obtain ⟨n, hn⟩ : ∃ n : Nat, x % 18446744073709551616 / 1099511627776 = n := ⟨(x % 18446744073709551616 / 1099511627776).toNat, by omega⟩
  have h2 : n < 2 ^ 64 := by omega
  rw [hn, show (255 : Int) = ((255 : Nat) : Int) from rfl, bits_and_u64_nat n 255 (by omega) (by omega)]
  have := Nat.and_le_right (n := n) (m := 255)
  omega

theorem L_next {l : List Int} (hl : ∀ x ∈ l, 0 ≤ x ∧ x ≤ 255) {a : Int} (ha : 0 ≤ a ∧ a ≤ 4611686018427387904) (z : Int) :
    ∃ x y, spec_l00Src_next.f l a z = some (x, a + 1, y) ∧ 0 ≤ x ∧ x ≤ 255 := by
  unfold spec_l00Src_next.f
  have hb := L_rdByte hl a
  rw [L_w (x := a + 1) (by omega), L_w (x := rd l a) (by omega)]
  split
  · rw [if_pos ha.1]
    split
    · exact ⟨_, _, rfl, hb.1, hb.2⟩
    · have := L_and255 ((IntKind.u64.wrap ((IntKind.u64.wrap (z * 6364136223846793005)) + (IntKind.u64.wrap (rd l a)))) + 1442695040888963407)
      rw [L_w (by omega)]
      exact ⟨_, _, rfl, this.1, this.2⟩
  · split
    · exact ⟨_, _, rfl, by omega, by omega⟩
    · have := L_and255 ((IntKind.u64.wrap ((IntKind.u64.wrap (z * 6364136223846793005)))) + 1442695040888963407)
      rw [L_w (by omega)]
      exact ⟨_, _, rfl, this.1, this.2⟩

theorem L_pick {l : List Int} (hl : ∀ x ∈ l, 0 ≤ x ∧ x ≤ 255) {a : Int} (ha : 0 ≤ a ∧ a ≤ 4611686018427387000) (z n : Int) :
    ∃ x b y, spec_l00Src_pick.f l a z n = some (x, b, y) ∧ 0 ≤ x ∧ (x < n ∨ n ≤ 1 ∧ x = 0) ∧ a ≤ b ∧ b ≤ a + 2 := by
  unfold spec_l00Src_pick.f
  split
  · exact ⟨_, _, _, rfl, by omega, by omega, by omega, by omega⟩
  · rename_i hn
    obtain ⟨x, y, e, h1, h2⟩ := L_next hl (a := a) (by omega) z
    rw [e]
    simp only [Option.bind_some]
    split
    · obtain ⟨x', y', e', h1', h2'⟩ := L_next hl (a := a + 1) (by omega) y
      rw [e']
      simp only [Option.bind_some]
      rw [if_neg (by omega), L_w (x := x * 256) (by omega), L_w (x := x * 256 + x') (by omega), Int.tmod_eq_emod_of_nonneg (by omega)]
      exact ⟨_, _, _, rfl, Int.emod_nonneg _ (by omega), Or.inl (Int.emod_lt_of_pos _ (by omega)), by omega, by omega⟩
    · rw [if_neg (by omega), Int.tmod_eq_emod_of_nonneg h1]
      exact ⟨_, _, _, rfl, Int.emod_nonneg _ (by omega), Or.inl (Int.emod_lt_of_pos _ (by omega)), by omega, by omega⟩

theorem L_areasRun {l : List Int} (hl : ∀ x ∈ l, 0 ≤ x ∧ x ≤ 255) (e : Nat) : ∀ (k : Nat) (o : List Int) (a z : Int), e < k → 0 ≤ a → a + 2 * e ≤ 4611686018427386000 → o.length + e ≤ 1000 → (∀ x ∈ o, 1 ≤ x ∧ x ≤ 200) →
    ∃ A, spec_A2Areas.l0 k o (e : Int) l a z = some A ∧ A.length = o.length + e ∧ ∀ x ∈ A, 1 ≤ x ∧ x ≤ 200 := by
  induction e with
  | zero =>
    intro k o a z hk h0 h1 h2 h3
    obtain ⟨k, rfl⟩ : ∃ q, k = q + 1 := ⟨k - 1, by omega⟩
    simp only [spec_A2Areas.l0]
    rw [if_neg (by omega)]
    exact ⟨o, rfl, by omega, h3⟩
  | succ e ih =>
    intro k o a z hk h0 h1 h2 h3
    obtain ⟨k, rfl⟩ : ∃ q, k = q + 1 := ⟨k - 1, by omega⟩
    simp only [spec_A2Areas.l0]
    obtain ⟨x, b, y, e1, x0, x1, b0, b1⟩ := L_pick hl (a := a) (by omega) z 200
    rw [if_pos (by omega), e1]
    simp only [Option.bind_some]
    rw [if_pos (by omega), L_w (x := 1 + x) (by omega), show ((e + 1 : Nat) : Int) - 1 = (e : Int) by omega, L_w (x := (e : Int)) (by omega)]
    obtain ⟨A, hA, hA1, hA2⟩ := ih k (o ++ [1 + x]) b y (by omega) (by omega) (by omega) (by simp; omega) (fun q hq => by
      rcases List.mem_append.1 hq with h | h
      · exact h3 q h
      · have := List.mem_singleton.1 h; omega)
    exact ⟨A, hA, by simp at hA1; omega, hA2⟩

theorem L_areasDrawn {l : List Int} (hl : ∀ x ∈ l, 0 ≤ x ∧ x ≤ 255) {n : Nat} (hn : 10 ≤ n) : ∃ A, spec_A2Areas.f n l = some A ∧ A.length ≤ 4 ∧ ∀ x ∈ A, 1 ≤ x ∧ x ≤ 200 := by
  unfold spec_A2Areas.f spec_l00From.f
  simp only [Option.bind_some]
  obtain ⟨x, b, y, e1, x0, x1, b0, b1⟩ := L_pick hl (a := 0) (by omega) 0 5
  rw [e1]
  simp only [Option.bind_some]
  obtain ⟨A, hA, hA1, hA2⟩ := L_areasRun hl x.toNat n [] b y (by omega) (by omega) (by omega) (by simp; omega) (by simp)
  rw [show ((x.toNat : Nat) : Int) = x by omega] at hA
  exact ⟨A, hA, by simp at hA1; omega, hA2⟩

def D_vol (p v u g : Int) : Prop := 1 ≤ v ∧ v ≤ 20000 ∧ 0 ≤ u ∧ u ≤ 100000000 ∧ 0 ≤ g ∧ g ≤ 100000 ∧ 1000 * u ≤ v * p
instance (p v u g : Int) : Decidable (D_vol p v u g) := by unfold D_vol; infer_instance

def D_slowFrom (s : Int) : Nat → Int → Int
  | 0, i => i
  | d + 1, i => if tmv i * s < 1000000 then D_slowFrom s d (i + 1) else i

def D_slow (s : Int) : Int := D_slowFrom s 37 0

def D_strength (per keeps vol used age : Int) : Int := if age ≥ keeps then 0 else 1000 * (vol * per - 1000 * used) / (vol * per) * (keeps - age) / keeps

def D_can (p k v u g area t : Int) : Prop := D_slow (D_strength p k v u g) ≤ t ∧ D_vol p v (u + area) g
instance (p k v u g area t : Int) : Decidable (D_can p k v u g area t) := by unfold D_can; infer_instance

def D_fill (v u g m : Int) : Int × Int × Int := (v, u * (v - m) / v, g * (v - m) / v)

def D_fillCan (p k v u g a t m : Int) : Prop := D_can p k (D_fill v u g m).1 (D_fill v u g m).2.1 (D_fill v u g m).2.2 a t
instance (p k v u g a t m : Int) : Decidable (D_fillCan p k v u g a t m) := by unfold D_fillCan; infer_instance

def D_leastM (p k v u g a t : Int) : Nat → Int → Int
  | 0, m => m
  | e + 1, m => if D_fillCan p k v u g a t m then m else D_leastM p k v u g a t e (m + 1)

def D_lrep (p k c d t : Int) : List Int → List Int → Int → Int → Int → Int → List Int × Int × Int
  | [], o, sm, _, _, _ => (o, sm, 0)
  | a :: r, o, sm, v, u, g => if D_leastM p k v u g a t (v.toNat + 1) 0 ≤ v then D_lrep p k c d t r (o ++ [D_leastM p k v u g a t (v.toNat + 1) 0]) (wrap64 (sm + D_leastM p k v u g a t (v.toNat + 1) 0)) (D_fill v u g (D_leastM p k v u g a t (v.toNat + 1) 0)).1 ((D_fill v u g (D_leastM p k v u g a t (v.toNat + 1) 0)).2.1 + a) (D_fill v u g (D_leastM p k v u g a t (v.toNat + 1) 0)).2.2
    else ([], 0, 6)

def D_lrOk (p k t v : Int) : List Int → List Int → Int → Int → Prop
  | [], R, _, _ => R = []
  | a :: r, R, u, g => ∃ x R', R = x :: R' ∧ 0 ≤ x ∧ x ≤ v ∧ D_fillCan p k v u g a t x ∧ (∀ j, 0 ≤ j → j < x → ¬ D_fillCan p k v u g a t j) ∧ D_lrOk p k t v r R' (u * (v - x) / v + a) (g * (v - x) / v)

theorem L_leastMRange (p k v u g a t : Int) (e : Nat) : ∀ m, m ≤ D_leastM p k v u g a t e m ∧ D_leastM p k v u g a t e m ≤ m + e ∧ (D_leastM p k v u g a t e m < m + e → D_fillCan p k v u g a t (D_leastM p k v u g a t e m)) := by
  induction e with
  | zero => intro m; unfold D_leastM; exact ⟨by omega, by omega, fun h => by omega⟩
  | succ e ih =>
    intro m
    unfold D_leastM
    split
    · rename_i h; exact ⟨by omega, by omega, fun _ => h⟩
    · have := ih (m + 1)
      exact ⟨by omega, by omega, fun h => this.2.2 (by omega)⟩

theorem L_leastMin (p k v u g a t : Int) (e : Nat) : ∀ m j, m ≤ j → j < D_leastM p k v u g a t e m → ¬ D_fillCan p k v u g a t j := by
  induction e with
  | zero => intro m j h0 h1; unfold D_leastM at h1; omega
  | succ e ih =>
    intro m j h0 h1
    unfold D_leastM at h1
    split at h1
    · omega
    · rename_i hn
      by_cases h : j = m
      · rw [h]; exact hn
      · exact ih (m + 1) j (by omega) h1

theorem L_lrepTail (p k c d t v : Int) : ∀ (l o : List Int) (sm u g : Int), D_vol p v u g → 0 ≤ sm → sm + 20000 * l.length ≤ 1000000000 → (D_lrep p k c d t l o sm v u g).2.2 = 0 →
    ∃ R, D_lrep p k c d t l o sm v u g = (o ++ R, sm + R.sum, 0) ∧ R.length = l.length ∧ D_lrOk p k t v l R u g ∧ ∀ x ∈ R, 0 ≤ x ∧ x ≤ v
  | [], o, sm, u, g, _, _, _, _ => ⟨[], by simp [D_lrep], rfl, rfl, by simp⟩
  | a :: r, o, sm, u, g, hV, h0, h1, h => by
    obtain ⟨m1, m2, m3⟩ := L_leastMRange p k v u g a t (v.toNat + 1) 0
    have hm := L_leastMin p k v u g a t (v.toNat + 1) 0
    have hv : 1 ≤ v ∧ v ≤ 20000 := by unfold D_vol at hV; omega
    simp only [List.length_cons] at h1
    unfold D_lrep at h ⊢
    generalize D_leastM p k v u g a t (v.toNat + 1) 0 = x at *
    by_cases hx : x ≤ v
    · rw [if_pos hx] at h ⊢
      have hF := m3 (by omega)
      have hV2 : D_vol p v (u * (v - x) / v + a) (g * (v - x) / v) := hF.2
      rw [L_w (x := sm + x) (by omega)] at h ⊢
      obtain ⟨R, e1, e2, e3, e4⟩ := L_lrepTail p k c d t v r (o ++ [x]) (sm + x) _ _ hV2 (by omega) (by omega) h
      refine ⟨x :: R, ?_, by simp [e2], ⟨x, R, rfl, m1, hx, hF, hm, e3⟩, ?_⟩
      · have e1' : D_lrep p k c d t r (o ++ [x]) (sm + x) (D_fill v u g x).1 ((D_fill v u g x).2.1 + a) (D_fill v u g x).2.2 = (o ++ [x] ++ R, sm + x + R.sum, 0) := e1
        rw [e1', List.append_assoc, List.sum_cons]
        simp only [List.singleton_append, Prod.mk.injEq, true_and, and_true]
        omega
      · intro q hq
        rcases List.mem_cons.1 hq with rfl | hq
        · exact ⟨m1, hx⟩
        · exact e4 q hq
    · rw [if_neg hx] at h
      simp at h

theorem L_lrepCode (p k c d t : Int) : ∀ (l o : List Int) (sm v u g : Int), (D_lrep p k c d t l o sm v u g).2.2 = 0 ∨ (D_lrep p k c d t l o sm v u g).2.2 = 6
  | [], o, sm, v, u, g => by simp [D_lrep]
  | a :: r, o, sm, v, u, g => by
    unfold D_lrep
    split
    · exact L_lrepCode p k c d t r _ _ _ _ _
    · simp

theorem L_rdGet {l : List Int} {i : Int} (h0 : 0 ≤ i) (h : i < l.length) : ∃ hi : i.toNat < l.length, rd l i = l[i.toNat]'hi :=
  ⟨by omega, by unfold rd; rw [List.getD_eq_getElem?_getD, List.getElem?_eq_getElem (by omega)]; rfl⟩

theorem L_lrStep {p k t v u g : Int} {l R : List Int} {i : Int} (h0 : 0 ≤ i) (hi : i < l.length) (h : D_lrOk p k t v (l.drop i.toNat) (R.drop i.toNat) u g) :
    i < R.length ∧ 0 ≤ rd R i ∧ rd R i ≤ v ∧ D_fillCan p k v u g (rd l i) t (rd R i) ∧ D_lrOk p k t v (l.drop (i + 1).toNat) (R.drop (i + 1).toNat) (u * (v - rd R i) / v + rd l i) (g * (v - rd R i) / v) ∧ (R.drop i.toNat).sum = rd R i + (R.drop (i + 1).toNat).sum := by
  obtain ⟨hlt, ea⟩ := L_rdGet (l := l) (i := i) h0 hi
  rw [List.drop_eq_getElem_cons hlt, ← ea] at h
  obtain ⟨x, R', e, x0, x1, hF, _, hR⟩ := h
  have hiR : i.toNat < R.length := by
    rcases Nat.lt_or_ge i.toNat R.length with h | h
    · exact h
    · rw [List.drop_eq_nil_of_le h] at e; simp at e
  obtain ⟨hltR, eb⟩ := L_rdGet (l := R) (i := i) h0 (by omega)
  rw [List.drop_eq_getElem_cons hltR, ← eb] at e
  obtain ⟨rfl, rfl⟩ := List.cons.inj e
  rw [show (i + 1).toNat = i.toNat + 1 by omega]
  refine ⟨by omega, x0, x1, hF, hR, ?_⟩
  rw [List.drop_eq_getElem_cons hltR, ← eb, List.sum_cons]

def D_sheets (p k v g t : Int) : List Int → Int → Int
  | [], _ => 0
  | a :: r, u => if D_can p k v u g a t then 1 + D_sheets p k v g t r (u + a) else 0

theorem L_sheetsRange (p k v g t : Int) : ∀ (l : List Int) (u : Int), 0 ≤ D_sheets p k v g t l u ∧ D_sheets p k v g t l u ≤ l.length
  | [], u => by simp [D_sheets]
  | a :: r, u => by
    have := L_sheetsRange p k v g t r (u + a)
    simp only [D_sheets, List.length_cons]
    split <;> omega

theorem L_fill0 {p v u g : Int} (hV : D_vol p v u g) : D_fill v u g 0 = (v, u, g) := by
  unfold D_vol at hV
  unfold D_fill
  rw [show v - 0 = v by omega, Int.mul_ediv_cancel _ (by omega), Int.mul_ediv_cancel _ (by omega)]

theorem L_lrKnown (p k t v : Int) : ∀ (l R : List Int) (u g : Int), D_vol p v u g → D_lrOk p k t v l R u g →
    (∀ i : Nat, i < l.length → ((i : Int) < D_sheets p k v g t l u → R.getD i 0 = 0) ∧ ((i : Int) = D_sheets p k v g t l u → R.getD i 0 ≠ 0)) ∧ 0 ≤ R.sum ∧ (D_sheets p k v g t l u = l.length ↔ R.sum = 0)
  | [], R, u, g, _, h => by
    obtain rfl : R = [] := h
    exact ⟨fun i hi => by simp at hi, by simp, by simp [D_sheets]⟩
  | a :: r, R, u, g, hV, h => by
    obtain ⟨x, R', rfl, x0, x1, hF, hm, hR⟩ := h
    have hs := L_sheetsRange p k v g t r (u + a)
    by_cases hc : D_can p k v u g a t
    · have hc0 : D_fillCan p k v u g a t 0 := by unfold D_fillCan; rw [L_fill0 hV]; exact hc
      obtain rfl : x = 0 := by
        rcases Int.lt_or_le 0 x with h | h
        · exact absurd hc0 (hm 0 (by omega) h)
        · omega
      have f0 := L_fill0 hV
      unfold D_fill at f0
      obtain ⟨_, f1, f2⟩ := (show v = v ∧ u * (v - 0) / v = u ∧ g * (v - 0) / v = g by simpa using f0)
      rw [f1, f2] at hR
      obtain ⟨h1, h2, h3⟩ := L_lrKnown p k t v r R' (u + a) g hc.2 hR
      have e : D_sheets p k v g t (a :: r) u = 1 + D_sheets p k v g t r (u + a) := by simp only [D_sheets]; rw [if_pos hc]
      rw [e]
      refine ⟨fun i hi => ?_, by simpa using h2, ?_⟩
      · cases i with
        | zero => exact ⟨fun _ => rfl, fun h => by simp at h; omega⟩
        | succ i =>
          have := h1 i (by simpa using hi)
          refine ⟨fun h => ?_, fun h => ?_⟩
          · simpa using this.1 (by omega)
          · simpa using this.2 (by omega)
      · simp only [List.length_cons, List.sum_cons]
        constructor
        · intro h; have := h3.1 (by omega); omega
        · intro h; have := h3.2 (by omega); omega
    · have e : D_sheets p k v g t (a :: r) u = 0 := by simp only [D_sheets]; rw [if_neg hc]
      have hx : x ≠ 0 := by
        intro hx
        rw [hx] at hF
        unfold D_fillCan at hF
        rw [L_fill0 hV] at hF
        exact hc hF
      have hV2 : D_vol p v (u * (v - x) / v + a) (g * (v - x) / v) := hF.2
      obtain ⟨_, h2, _⟩ := L_lrKnown p k t v r R' _ _ hV2 hR
      rw [e]
      refine ⟨fun i hi => ⟨fun h => by omega, fun h => ?_⟩, by simp only [List.sum_cons]; omega, ?_⟩
      · obtain rfl : i = 0 := by omega
        simpa using hx
      · simp only [List.length_cons, List.sum_cons]
        constructor
        · intro h; omega
        · intro h; omega

def D_dev (a b c d : Int) : Prop := 100 ≤ a ∧ a ≤ 100000 ∧ 1 ≤ b ∧ b ≤ 100000 ∧ 10 ≤ c ∧ c ≤ 40 ∧ 1 ≤ d ∧ d ≤ 10
instance (a b c d : Int) : Decidable (D_dev a b c d) := by unfold D_dev; infer_instance

def D_areas (l : List Int) (t : Int) : Prop := (∀ x ∈ l, 1 ≤ x ∧ x ≤ 5000) ∧ 0 ≤ t ∧ t ≤ 36
instance (l : List Int) (t : Int) : Decidable (D_areas l t) := by unfold D_areas; infer_instance

theorem L_sd {p q : Prop} [Decidable p] [Decidable q] (h : p ↔ q) : some (decide p) = some (decide q) := by rw [decide_eq_decide.mpr h]

theorem L_sf {q : Prop} [Decidable q] (h : ¬ q) : some false = some (decide q) := by rw [decide_eq_false h]

theorem L_in (a b c : Int) : spec_l00In.f a b c = some (decide (b ≤ a ∧ a ≤ c)) := by
  unfold spec_l00In.f
  split
  · exact L_sd (by omega)
  · exact L_sf (by omega)

theorem L_specDev {a b c d : Int} (hc : -128 ≤ c ∧ c ≤ 127) (hd : -128 ≤ d ∧ d ≤ 127) : spec_l04Developer.f a b c d = some (decide (D_dev a b c d)) := by
  unfold spec_l04Developer.f
  rw [L_w (x := c) (by omega), L_w (x := d) (by omega)]
  simp only [L_in, Option.bind_some, decide_eq_true_eq]
  unfold D_dev
  repeat' split
  all_goals first | exact L_sd (by omega) | exact L_sf (by omega)

theorem L_mulb {x y X Y : Int} (h : 0 ≤ x) (hx : x ≤ X) (k : 0 ≤ y) (ky : y ≤ Y) : 0 ≤ x * y ∧ x * y ≤ X * Y :=
  ⟨Int.mul_nonneg h k, Int.mul_le_mul hx ky k (Int.le_trans h hx)⟩

theorem L_specOk {a b c d v u g : Int} (hc : -128 ≤ c ∧ c ≤ 127) (hd : -128 ≤ d ∧ d ≤ 127) : spec_l04Ok.f a b c d v u g = some (decide (D_dev a b c d ∧ D_vol a v u g)) := by
  unfold spec_l04Ok.f
  rw [L_specDev hc hd]
  simp only [L_in, Option.bind_some, decide_eq_true_eq]
  by_cases hD : D_dev a b c d
  · have hDD := hD
    unfold D_dev at hDD
    rw [if_pos hD]
    by_cases h1 : 1 ≤ v ∧ v ≤ 20000
    · by_cases h2 : 0 ≤ u ∧ u ≤ 100000000
      · by_cases h3 : 0 ≤ g ∧ g ≤ 100000
        · rw [if_pos h1, if_pos h2, if_pos h3]
          have := L_mulb (x := v) (y := a) (X := 20000) (Y := 100000) (by omega) (by omega) (by omega) (by omega)
          rw [L_w (x := 1000 * u) (by omega), L_w (x := v * a) (by omega)]
          refine L_sd ?_
          unfold D_vol
          constructor
          · intro h; exact ⟨hD, by omega⟩
          · intro h; omega
        · rw [if_pos h1, if_pos h2, if_neg h3]; refine L_sf ?_; unfold D_vol; omega
      · rw [if_pos h1, if_neg h2]; refine L_sf ?_; unfold D_vol; omega
    · rw [if_neg h1]; refine L_sf ?_; unfold D_vol; omega
  · rw [if_neg hD]; exact L_sf (fun h => hD h.1)

theorem L_areasLoop (l : List Int) (hn : l.length ≤ 140737488351232) (d : Nat) : ∀ (k : Nat) (b : Bool) (i : Int), 0 ≤ i → i + d = l.length → d < k →
    spec_l04Areas.l0 k l b i = some (if b = true ∧ ∀ x ∈ l.drop i.toNat, 1 ≤ x ∧ x ≤ 5000 then 0 else 2) := by
  induction d with
  | zero =>
    intro k b i h0 hd hk
    obtain ⟨k, rfl⟩ : ∃ m, k = m + 1 := ⟨k - 1, by omega⟩
    simp only [spec_l04Areas.l0]
    rw [if_neg (by omega), List.drop_eq_nil_of_le (by omega)]
    cases b <;> simp
  | succ d ih =>
    intro k b i h0 hd hk
    obtain ⟨k, rfl⟩ : ∃ m, k = m + 1 := ⟨k - 1, by omega⟩
    obtain ⟨hi, e⟩ := L_rdGet (l := l) (i := i) h0 (by omega)
    simp only [spec_l04Areas.l0]
    rw [if_pos (by omega)]
    cases b with
    | false => simp
    | true =>
      simp only [if_true]
      rw [if_pos h0, L_in]
      simp only [Option.bind_some]
      rw [L_w (x := i + 1) (by omega), ih k _ (i + 1) (by omega) (by omega) (by omega), show (i + 1).toNat = i.toNat + 1 by omega, List.drop_eq_getElem_cons hi, ← e]
      by_cases h : 1 ≤ rd l i ∧ rd l i ≤ 5000
      · simp [h]
      · simp [h]

theorem L_specAreas {p k c d v u g t : Int} (hc : -128 ≤ c ∧ c ≤ 127) (hd : -128 ≤ d ∧ d ≤ 127) (l : List Int) (hn : l.length ≤ 1048576) {n : Nat} (hk : l.length < n) :
    spec_l04Areas.f n p k c d v u g l t = some (if D_dev p k c d ∧ D_vol p v u g then (if (l.length : Int) > 60 then 3 else (if D_areas l t then 0 else 2)) else 1) := by
  unfold spec_l04Areas.f
  rw [L_specOk hc hd, L_in]
  simp only [Option.bind_some, decide_eq_true_eq]
  rw [L_areasLoop l (by omega) l.length n _ 0 (by omega) (by omega) hk]
  by_cases h : D_dev p k c d ∧ D_vol p v u g
  · rw [if_pos h, if_pos h]
    by_cases h1 : (l.length : Int) > 60
    · rw [if_pos h1, if_pos h1]
    · rw [if_neg h1, if_neg h1]
      simp only [decide_eq_true_eq, Int.toNat_zero, List.drop_zero]
      by_cases h2 : D_areas l t
      · rw [if_pos h2, if_pos ⟨h2.2, h2.1⟩]
      · rw [if_neg h2, if_neg (fun x => h2 ⟨x.2, x.1⟩)]
  · rw [if_neg h, if_neg h]

theorem L_within (a b c : Int) : impl_within.f a b c = some (decide (b ≤ a ∧ a ≤ c)) := by
  unfold impl_within.f
  split
  · exact L_sd (by omega)
  · exact L_sf (by omega)

theorem L_implDev {a b c d : Int} (hc : -128 ≤ c ∧ c ≤ 127) (hd : -128 ≤ d ∧ d ≤ 127) : impl_ValidDeveloper.f a b c d = some (decide (D_dev a b c d)) := by
  unfold impl_ValidDeveloper.f
  rw [L_w (x := c) (by omega), L_w (x := d) (by omega)]
  simp only [L_within, Option.bind_some, decide_eq_true_eq]
  unfold D_dev
  repeat' split
  all_goals first | exact L_sd (by omega) | exact L_sf (by omega)

theorem L_isVolume (v : Int) : impl_isVolume.f v = some (decide (1 ≤ v ∧ v ≤ 20000)) := by
  unfold impl_isVolume.f; rw [L_within]; rfl

theorem L_isBath {a b c d v u g : Int} (hD : D_dev a b c d) : impl_isBath.f a b c d v u g = some (decide (D_vol a v u g)) := by
  unfold impl_isBath.f
  simp only [L_isVolume, L_within, Option.bind_some, decide_eq_true_eq]
  have hDD := hD
  unfold D_dev at hDD
  by_cases h1 : 1 ≤ v ∧ v ≤ 20000
  · by_cases h2 : 0 ≤ u ∧ u ≤ 100000000
    · by_cases h3 : 0 ≤ g ∧ g ≤ 100000
      · rw [if_pos h1, if_pos h2, if_pos h3]
        have := L_mulb (x := v) (y := a) (X := 20000) (Y := 100000) (by omega) (by omega) (by omega) (by omega)
        rw [L_w (x := 1000 * u) (by omega), L_w (x := v * a) (by omega)]
        refine L_sd ?_
        unfold D_vol
        constructor
        · intro h; omega
        · intro h; omega
      · rw [if_pos h1, if_pos h2, if_neg h3]; refine L_sf ?_; unfold D_vol; omega
    · rw [if_pos h1, if_neg h2]; refine L_sf ?_; unfold D_vol; omega
  · rw [if_neg h1]; refine L_sf ?_; unfold D_vol; omega

theorem L_implBath {a b c d v u g : Int} (hc : -128 ≤ c ∧ c ≤ 127) (hd : -128 ≤ d ∧ d ≤ 127) : impl_ValidBath.f a b c d v u g = some (decide (D_dev a b c d ∧ D_vol a v u g)) := by
  unfold impl_ValidBath.f
  rw [L_implDev hc hd]
  simp only [Option.bind_some, decide_eq_true_eq]
  by_cases hD : D_dev a b c d
  · rw [if_pos hD, L_isBath hD]
    exact L_sd (by simp [hD])
  · rw [if_neg hD]; exact L_sf (fun h => hD h.1)

theorem L_idxAnyOn {α : Type} (q : α → Option Bool) (p : α → Bool) : ∀ (l : List α) (i : Int), (∀ x ∈ l, q x = some (p x)) → 0 ≤ i → ∃ r, D_idx q l i = some r ∧ (l.any p = false → r = -1) ∧ (l.any p = true → 0 ≤ r)
  | [], i, _, hi => ⟨-1, rfl, fun _ => rfl, fun h => by simp at h⟩
  | x :: t, i, h, hi => by
    simp only [D_idx, h x (by simp), Option.bind_some]
    by_cases hx : p x = true
    · rw [if_pos hx]
      exact ⟨i, rfl, fun h => by simp [hx] at h, fun _ => hi⟩
    · rw [if_neg hx]
      obtain ⟨r, h1, h2, h3⟩ := L_idxAnyOn q p t (i + 1) (fun y hy => h y (by simp [hy])) (by omega)
      refine ⟨r, h1, fun h => h2 (by simpa [hx] using h), fun h => h3 (by simpa [hx] using h)⟩

theorem L_isArea (a : Int) : impl_isArea.f a = some (decide (1 ≤ a ∧ a ≤ 5000)) := by unfold impl_isArea.f; rw [L_within]; rfl

theorem L_anyIff {α : Type} (P : α → Prop) [DecidablePred P] (l : List α) (r : Int) (h2 : l.any (fun x => !decide (P x)) = false → r = -1) (h3 : l.any (fun x => !decide (P x)) = true → 0 ≤ r) [Decidable (∀ x ∈ l, P x)] :
    decide (0 ≤ r) = !decide (∀ x ∈ l, P x) := by
  by_cases h : ∀ x ∈ l, P x
  · have e : l.any (fun x => !decide (P x)) = false := by rw [List.any_eq_false]; intro x hx; simp [h x hx]
    rw [h2 e, decide_eq_true h]
    rfl
  · have e : l.any (fun x => !decide (P x)) = true := by
      rw [List.any_eq_true]
      obtain ⟨x, hx⟩ := Classical.not_forall.1 h
      obtain ⟨hx, hh⟩ := Classical.not_imp.1 hx
      exact ⟨x, hx, by simp only [Bool.not_eq_true', decide_eq_false_iff_not]; exact hh⟩
    rw [decide_eq_false h, decide_eq_true (h3 e)]
    rfl


theorem L_anyArea (l : List Int) : slices_ContainsFunc_int64_int64.f l 99 = some (!decide (∀ x ∈ l, 1 ≤ x ∧ x ≤ 5000)) := by
  unfold slices_ContainsFunc_int64_int64.f slices_IndexFunc_int64_int64.f
  first
    | rw [if_pos rfl]
    | rw [if_neg (by decide), if_pos rfl]
  obtain ⟨r, h1, h2, h3⟩ := L_idxAnyOn impl_areasCode_1.f (fun x => !decide (1 ≤ x ∧ x ≤ 5000)) l 0 (fun x _ => by unfold impl_areasCode_1.f; rw [L_isArea]; rfl) (by omega)
  rw [h1]
  simp only [Option.bind_some]
  rw [L_anyIff (fun x : Int => 1 ≤ x ∧ x ≤ 5000) l r h2 h3]

theorem L_areThirds (a : Int) : impl_areThirds.f a = some (decide (0 ≤ a ∧ a ≤ 36)) := by
  unfold impl_areThirds.f; rw [L_within]; rfl

theorem L_implAreas {p k c d v u g t : Int} (hc : -128 ≤ c ∧ c ≤ 127) (hd : -128 ≤ d ∧ d ≤ 127) (l : List Int) :
    impl_areasCode.f p k c d v u g l t = some (if D_dev p k c d ∧ D_vol p v u g then (if (l.length : Int) > 60 then 3 else (if D_areas l t then 0 else 2)) else 1) := by
  unfold impl_areasCode.f
  rw [L_implBath hc hd, L_anyArea, L_areThirds]
  simp only [Option.bind_some, decide_eq_true_eq]
  by_cases h : D_dev p k c d ∧ D_vol p v u g
  · rw [if_pos h, if_pos h]
    by_cases h1 : (l.length : Int) > 60
    · rw [if_pos h1, if_pos h1]
    · rw [if_neg h1, if_neg h1]
      by_cases h2 : ∀ x ∈ l, 1 ≤ x ∧ x ≤ 5000
      · by_cases h3 : 0 ≤ t ∧ t ≤ 36
        · rw [decide_eq_true h2]; simp only [Bool.not_true, Bool.false_eq_true, if_false]; rw [if_pos h3, if_pos (show D_areas l t from ⟨h2, h3⟩)]
        · rw [decide_eq_true h2]; simp only [Bool.not_true, Bool.false_eq_true, if_false]; rw [if_neg h3, if_neg (fun x : D_areas l t => h3 x.2)]
      · rw [decide_eq_false h2]; simp only [Bool.not_false, if_true]; rw [if_neg (fun x : D_areas l t => h2 x.1)]
  · rw [if_neg h, if_neg h]

theorem L_quot {a b q : Int} (ha : 0 ≤ a) (hb : 0 < b) (h : a ≤ q * b) : 0 ≤ a / b ∧ a / b ≤ q := by
  refine ⟨Int.ediv_nonneg ha (by omega), ?_⟩
  have := Int.ediv_le_ediv hb h
  rwa [Int.mul_ediv_cancel _ (by omega)] at this

theorem L_strengthParts {p k v u g : Int} {a b c d : Int} (hD : D_dev p k c d) (hV : D_vol p v u g) (hg : g < k) :
    (0 < v * p ∧ v * p ≤ 2000000000) ∧ (0 ≤ 1000 * (v * p - 1000 * u) / (v * p) ∧ 1000 * (v * p - 1000 * u) / (v * p) ≤ 1000) ∧
    (0 ≤ 1000 * (v * p - 1000 * u) / (v * p) * (k - g) ∧ 1000 * (v * p - 1000 * u) / (v * p) * (k - g) ≤ 1000 * k) := by
  unfold D_dev at hD
  unfold D_vol at hV
  have h1 := L_mulb (x := v) (y := p) (X := 20000) (Y := 100000) (by omega) (by omega) (by omega) (by omega)
  have h2 : 0 < v * p := Int.mul_pos (by omega) (by omega)
  have h3 := L_quot (a := 1000 * (v * p - 1000 * u)) (b := v * p) (q := 1000) (by omega) h2 (by omega)
  have h4 := L_mulb (x := 1000 * (v * p - 1000 * u) / (v * p)) (y := k - g) (X := 1000) (Y := k) h3.1 h3.2 (by omega) (by omega)
  exact ⟨⟨h2, by omega⟩, h3, h4⟩

theorem L_strengthRange {p k v u g c d : Int} (hD : D_dev p k c d) (hV : D_vol p v u g) : 0 ≤ D_strength p k v u g ∧ D_strength p k v u g ≤ 1000 := by
  unfold D_strength
  split
  · omega
  · rename_i hg
    have hh := L_strengthParts (a := 0) (b := 0) hD hV (by omega)
    unfold D_dev at hD
    exact L_quot hh.2.2.1 (by omega) hh.2.2.2

theorem L_slowFrom (s : Int) (d : Nat) : ∀ i : Int, 0 ≤ i → i + d = 37 → i ≤ D_slowFrom s d i ∧ D_slowFrom s d i ≤ 37 ∧ (∀ j, i ≤ j → j < D_slowFrom s d i → tmv j * s < 1000000) ∧ (D_slowFrom s d i ≤ 36 → 1000000 ≤ tmv (D_slowFrom s d i) * s) := by
  induction d with
  | zero => intro i h0 hd; unfold D_slowFrom; exact ⟨by omega, by omega, fun j h1 h2 => by omega, fun h => by omega⟩
  | succ d ih =>
    intro i h0 hd
    unfold D_slowFrom
    split
    · rename_i hlt
      obtain ⟨h1, h2, h3, h4⟩ := ih (i + 1) (by omega) (by omega)
      refine ⟨by omega, h2, fun j hj hj2 => ?_, h4⟩
      by_cases e : j = i
      · rw [e]; exact hlt
      · exact h3 j (by omega) hj2
    · rename_i hge
      exact ⟨by omega, by omega, fun j h1 h2 => by omega, fun _ => by omega⟩

theorem L_slowRange (s : Int) : 0 ≤ D_slow s ∧ D_slow s ≤ 37 := by
  have := L_slowFrom s 37 0 (by omega) (by omega)
  exact ⟨this.1, this.2.1⟩

theorem L_specStrength {p k v u g c d : Int} (hD : D_dev p k c d) (hV : D_vol p v u g) : spec_l04Strength.f p k c d v u g = some (D_strength p k v u g) := by
  unfold spec_l04Strength.f D_strength
  by_cases hg : g ≥ k
  · rw [if_pos hg, if_pos hg]
  · rw [if_neg hg, if_neg hg]
    obtain ⟨h1, h2, h3⟩ := L_strengthParts (a := 0) (b := 0) hD hV (by omega)
    unfold D_dev at hD
    unfold D_vol at hV
    have h4 := L_quot h3.1 (show 0 < k by omega) h3.2
    rw [L_w (x := v * p) (by omega), if_neg (by omega), if_neg (by omega), L_w (x := 1000 * u) (by omega), L_w (x := v * p - 1000 * u) (by omega), L_w (x := 1000 * (v * p - 1000 * u)) (by omega),
      Int.tdiv_eq_ediv_of_nonneg (a := 1000 * (v * p - 1000 * u)) (by omega), L_w (x := 1000 * (v * p - 1000 * u) / (v * p)) (by omega), L_w (x := k - g) (by omega),
      L_w (x := 1000 * (v * p - 1000 * u) / (v * p) * (k - g)) (by omega), Int.tdiv_eq_ediv_of_nonneg h3.1, L_w (by omega)]

theorem L_specTimeAll : ∀ n : Nat, n < 37 → spec_l01Time.f n = some (tmv n) := by decide +kernel

theorem L_specTime {k : Int} (h : 0 ≤ k ∧ k ≤ 36) : spec_l01Time.f k = some (tmv k) := by
  obtain ⟨n, rfl⟩ : ∃ n : Nat, k = n := ⟨k.toNat, by omega⟩
  exact L_specTimeAll n (by omega)

theorem L_tmvAll : ∀ n : Nat, n < 37 → 1000 ≤ tmv n ∧ tmv n ≤ 4096000 := by decide

theorem L_tmv {k : Int} (h : 0 ≤ k ∧ k ≤ 36) : 1000 ≤ tmv k ∧ tmv k ≤ 4096000 := by
  obtain ⟨n, rfl⟩ : ∃ n : Nat, k = n := ⟨k.toNat, by omega⟩
  exact L_tmvAll n (by omega)

theorem L_tms {k s : Int} (h : 0 ≤ k ∧ k ≤ 36) (hs : 0 ≤ s ∧ s ≤ 1000) : wrap64 (tmv k * s) = tmv k * s := by
  have h1 := L_tmv h
  have h2 := L_mulb (x := tmv k) (y := s) (X := 4096000) (Y := 1000) (by omega) (by omega) hs.1 hs.2
  exact L_w (by omega)

theorem L_specSlowFrom {s : Int} (hs : 0 ≤ s ∧ s ≤ 1000) (d : Nat) : ∀ (k : Nat) (i : Int), 0 ≤ i → i + d = 37 → d < k → spec_l04Slower.l0 k s i = some (if D_slowFrom s d i ≤ 36 then D_slowFrom s d i else -1) := by
  induction d with
  | zero =>
    intro k i h0 hd hk
    obtain ⟨k, rfl⟩ : ∃ m, k = m + 1 := ⟨k - 1, by omega⟩
    have e : D_slowFrom s 0 i = i := rfl
    simp only [spec_l04Slower.l0]
    rw [if_neg (by omega), e, if_neg (by omega)]
  | succ d ih =>
    intro k i h0 hd hk
    obtain ⟨k, rfl⟩ : ∃ m, k = m + 1 := ⟨k - 1, by omega⟩
    simp only [spec_l04Slower.l0]
    rw [if_pos (by omega), L_specTime (by omega)]
    simp only [Option.bind_some]
    rw [L_tms (by omega) hs]
    by_cases h : tmv i * s < 1000000
    · have e : D_slowFrom s (d + 1) i = D_slowFrom s d (i + 1) := by simp only [D_slowFrom]; rw [if_pos h]
      rw [if_neg (by omega), L_w (x := i + 1) (by omega), e]
      exact ih k (i + 1) (by omega) (by omega) (by omega)
    · have e : D_slowFrom s (d + 1) i = i := by simp only [D_slowFrom]; rw [if_neg h]
      rw [if_pos (by omega), e, if_pos (by omega)]

theorem L_specSlower {s : Int} (hs : 0 ≤ s ∧ s ≤ 1000) {k : Nat} (hk : 38 ≤ k) : spec_l04Slower.f k s = some (if D_slow s ≤ 36 then D_slow s else -1) :=
  L_specSlowFrom hs 37 k 0 (by omega) (by omega) (by omega)

theorem L_specSheet {p k c d v u g a : Int} (hc : -128 ≤ c ∧ c ≤ 127) (hd : -128 ≤ d ∧ d ≤ 127) (hD : D_dev p k c d) (hV : D_vol p v u g) (ha : 1 ≤ a ∧ a ≤ 5000) {n : Nat} (hn : 38 ≤ n) :
    spec_l04Sheet.f n p k c d v u g a = some (if D_slow (D_strength p k v u g) ≤ 36 then (v, u + a, g, decide (D_vol p v (u + a) g)) else (0, 0, 0, false)) := by
  unfold spec_l04Sheet.f
  have hs := L_strengthRange hD hV
  have hr := L_slowRange (D_strength p k v u g)
  have hv := hV
  unfold D_vol at hv
  rw [L_specStrength hD hV]
  simp only [Option.bind_some]
  rw [L_specSlower hs hn]
  simp only [Option.bind_some]
  by_cases h : D_slow (D_strength p k v u g) ≤ 36
  · rw [if_pos h, if_neg (by omega), L_w (x := u + a) (by omega), L_specOk hc hd, if_pos h]
    simp [hD]
  · rw [if_neg h, if_pos (by omega), if_neg h]

theorem L_specReady {p k c d v u g a t : Int} (hc : -128 ≤ c ∧ c ≤ 127) (hd : -128 ≤ d ∧ d ≤ 127) (hD : D_dev p k c d) (hV : D_vol p v u g) (ha : 1 ≤ a ∧ a ≤ 5000) (ht : 0 ≤ t ∧ t ≤ 36) {n : Nat} (hn : 38 ≤ n) :
    ∃ x y z : Int, spec_l04Ready.f n p k c d v u g a t = some (x, y, z, decide (D_can p k v u g a t)) ∧ (D_can p k v u g a t → x = v ∧ y = u + a ∧ z = g) := by
  unfold spec_l04Ready.f
  have hs := L_strengthRange hD hV
  have hr := L_slowRange (D_strength p k v u g)
  rw [L_specStrength hD hV]
  simp only [Option.bind_some]
  rw [L_specSlower hs hn, L_specSheet hc hd hD hV ha hn]
  simp only [Option.bind_some]
  by_cases h : D_slow (D_strength p k v u g) ≤ 36
  · rw [if_pos h, if_pos h]
    by_cases h2 : D_slow (D_strength p k v u g) > t
    · rw [if_pos h2]
      exact ⟨0, 0, 0, by rw [decide_eq_false (show ¬ D_can p k v u g a t by unfold D_can; omega)], fun x => by unfold D_can at x; omega⟩
    · rw [if_neg h2]
      refine ⟨v, u + a, g, ?_, fun _ => ⟨rfl, rfl, rfl⟩⟩
      simp only [Option.bind_some]
      congr 4
      rw [decide_eq_decide]
      unfold D_can
      exact ⟨fun x => ⟨by omega, x⟩, fun x => x.2⟩
  · rw [if_neg h, if_neg h, if_neg (by omega)]
    exact ⟨0, 0, 0, by rw [decide_eq_false (show ¬ D_can p k v u g a t by unfold D_can; omega)], fun x => by unfold D_can at x; omega⟩

theorem L_fillb {x v m X : Int} (hx : 0 ≤ x ∧ x ≤ X) (hv : 1 ≤ v ∧ v ≤ 20000) (hm : 0 ≤ m ∧ m ≤ v) : (0 ≤ x * (v - m) ∧ x * (v - m) ≤ X * 20000) ∧ 0 ≤ x * (v - m) / v ∧ x * (v - m) / v ≤ x := by
  have h1 := L_mulb (x := x) (y := v - m) (X := X) (Y := 20000) hx.1 hx.2 (by omega) (by omega)
  have h2 := L_mulb (x := x) (y := v - m) (X := x) (Y := v) hx.1 (by omega) (by omega) (by omega)
  exact ⟨h1, L_quot h1.1 (by omega) h2.2⟩

theorem L_fillVol {p v u g m : Int} (h : D_vol p v u g) (hm : 0 ≤ m ∧ m ≤ v) : D_vol p (D_fill v u g m).1 (D_fill v u g m).2.1 (D_fill v u g m).2.2 := by
  unfold D_vol at h ⊢
  have h1 := L_fillb (x := u) (v := v) (m := m) (X := 100000000) (by omega) (by omega) hm
  have h2 := L_fillb (x := g) (v := v) (m := m) (X := 100000) (by omega) (by omega) hm
  unfold D_fill
  dsimp only
  omega

theorem L_specFill {p v u g m : Int} (h : D_vol p v u g) (hm : 0 ≤ m ∧ m ≤ v) : spec_l04Fill.f v u g m = some (D_fill v u g m) := by
  unfold D_vol at h
  have h1 := L_fillb (x := u) (v := v) (m := m) (X := 100000000) (by omega) (by omega) hm
  have h2 := L_fillb (x := g) (v := v) (m := m) (X := 100000) (by omega) (by omega) hm
  unfold spec_l04Fill.f D_fill
  rw [if_neg (by omega), L_w (x := v - m) (by omega), L_w (x := u * (v - m)) (by omega), L_w (x := g * (v - m)) (by omega), Int.tdiv_eq_ediv_of_nonneg h1.1.1, Int.tdiv_eq_ediv_of_nonneg h2.1.1,
    L_w (x := u * (v - m) / v) (by omega), L_w (x := g * (v - m) / v) (by omega)]

theorem L_specLeastL1 {p k v u g c d a t : Int} (hc : -128 ≤ c ∧ c ≤ 127) (hd : -128 ≤ d ∧ d ≤ 127) (hD : D_dev p k c d) (hV : D_vol p v u g) (ha : 1 ≤ a ∧ a ≤ 5000) (ht : 0 ≤ t ∧ t ≤ 36) (l : List Int) (i : Int) (hi : 0 ≤ i) (hi2 : i < l.length) (hrd : rd l i = a) (o : List Int) (ho : o.length < 17592186044416) (sm : Int) (e : Nat) :
    ∀ (n : Nat) (m X Y Z : Int), 0 ≤ m → m + e = v → 2 * e + 100 ≤ n → (D_fillCan p k v u g a t m → X = (D_fill v u g m).1 ∧ Y = (D_fill v u g m).2.1 + a ∧ Z = (D_fill v u g m).2.2) →
    ∃ n', n ≤ n' + 2 * e + 2 ∧ spec_LeastReplenished.l1 n l t o sm i m (decide (D_fillCan p k v u g a t m)) p k c d v u g X Y Z =
      if D_leastM p k v u g a t (e + 1) m ≤ v then spec_LeastReplenished.l0 n' l t (o ++ [D_leastM p k v u g a t (e + 1) m]) (wrap64 (sm + D_leastM p k v u g a t (e + 1) m)) (wrap64 (i + 1)) p k c d (D_fill v u g (D_leastM p k v u g a t (e + 1) m)).1 ((D_fill v u g (D_leastM p k v u g a t (e + 1) m)).2.1 + a) (D_fill v u g (D_leastM p k v u g a t (e + 1) m)).2.2
      else some ([], 0, 6) := by
  have hv : v ≤ 20000 := by unfold D_vol at hV; omega
  induction e with
  | zero =>
    intro n m X Y Z h0 he hn hX
    obtain ⟨n, rfl⟩ : ∃ q, n = q + 2 := ⟨n - 2, by omega⟩
    refine ⟨n, by omega, ?_⟩
    by_cases hcan : D_fillCan p k v u g a t m
    · obtain ⟨e1, e2, e3⟩ := hX hcan
      simp only [spec_LeastReplenished.l1, spec_LeastReplenished.j2, D_leastM, hcan, decide_true, if_true, Bool.false_eq_true, if_false]
      rw [if_pos ho, if_pos (by omega), e1, e2, e3]
    · simp only [spec_LeastReplenished.l1, spec_LeastReplenished.j2, D_leastM, hcan, decide_false, Bool.false_eq_true, if_false]
      rw [if_neg (show ¬ (m + 1 ≤ v) by omega)]
      have : decide (m < v) = false := decide_eq_false (by omega)
      rw [this]
      simp
  | succ e ih =>
    intro n m X Y Z h0 he hn hX
    obtain ⟨n, rfl⟩ : ∃ q, n = q + 2 := ⟨n - 2, by omega⟩
    by_cases hcan : D_fillCan p k v u g a t m
    · refine ⟨n, by omega, ?_⟩
      obtain ⟨e1, e2, e3⟩ := hX hcan
      have hM : D_leastM p k v u g a t (e + 1 + 1) m = m := by simp [D_leastM, hcan]
      rw [hM, if_pos (by omega)]
      simp only [spec_LeastReplenished.l1, spec_LeastReplenished.j2, hcan, decide_true, if_true, Bool.false_eq_true, if_false]
      rw [if_pos ho, e1, e2, e3]
    · obtain ⟨x, y, z, r1, r2⟩ := L_specReady (v := (D_fill v u g (m + 1)).1) (u := (D_fill v u g (m + 1)).2.1) (g := (D_fill v u g (m + 1)).2.2) hc hd hD (L_fillVol hV ⟨by omega, by omega⟩) ha ht (n := n) (by omega)
      obtain ⟨n', hn', h2⟩ := ih n (m + 1) x y z (by omega) (by omega) (by omega) r2
      refine ⟨n', by omega, ?_⟩
      have hM : D_leastM p k v u g a t (e + 1 + 1) m = D_leastM p k v u g a t (e + 1) (m + 1) := by conv => lhs; unfold D_leastM; rw [if_neg hcan]
      rw [hM, ← h2]
      simp only [spec_LeastReplenished.l1, spec_LeastReplenished.j2, hcan, decide_false, Bool.false_eq_true, if_false]
      have : decide (m < v) = true := decide_eq_true (by omega)
      rw [this, L_w (x := m + 1) (by omega), L_specFill hV ⟨by omega, by omega⟩]
      simp only [if_true, Option.bind_some]
      rw [if_pos hi, if_pos (by omega), hrd, r1]
      rfl

theorem L_implFill {p v u g m : Int} (h : D_vol p v u g) (hm : 0 ≤ m ∧ m ≤ v) : impl_Bath_replenished.f v u g m = some (D_fill v u g m) := by
  unfold D_vol at h
  have h1 := L_fillb (x := u) (v := v) (m := m) (X := 100000000) (by omega) (by omega) hm
  have h2 := L_fillb (x := g) (v := v) (m := m) (X := 100000) (by omega) (by omega) hm
  unfold impl_Bath_replenished.f D_fill
  rw [if_neg (by omega), L_w (x := v - m) (by omega), L_w (x := u * (v - m)) (by omega), L_w (x := g * (v - m)) (by omega), Int.tdiv_eq_ediv_of_nonneg h1.1.1, Int.tdiv_eq_ediv_of_nonneg h2.1.1,
    L_w (x := u * (v - m) / v) (by omega), L_w (x := g * (v - m) / v) (by omega)]

theorem L_implStrength {p k v u g c d : Int} (hD : D_dev p k c d) (hV : D_vol p v u g) : impl_Bath_strength.f v u g p k c d = some (D_strength p k v u g) := by
  unfold impl_Bath_strength.f D_strength
  have hDD := hD
  have hVV := hV
  unfold D_dev at hDD
  unfold D_vol at hVV
  have h1 := L_mulb (x := v) (y := p) (X := 20000) (Y := 100000) (by omega) (by omega) (by omega) (by omega)
  have h0 : 0 < v * p := Int.mul_pos (by omega) (by omega)
  have h3 := L_quot (a := 1000 * (v * p - 1000 * u)) (b := v * p) (q := 1000) (by omega) h0 (by omega)
  rw [L_w (x := v * p) (by omega), if_neg (by omega), if_neg (by omega), L_w (x := 1000 * u) (by omega), L_w (x := v * p - 1000 * u) (by omega), L_w (x := 1000 * (v * p - 1000 * u)) (by omega),
      Int.tdiv_eq_ediv_of_nonneg (a := 1000 * (v * p - 1000 * u)) (by omega), L_w (x := 1000 * (v * p - 1000 * u) / (v * p)) (by omega), L_w (x := k - g) (by omega)]
  by_cases hg : g ≥ k
  · rw [if_pos hg, show mx 0 (k - g) = 0 by unfold mx; omega, Int.mul_zero]
    simp [wrap64]
  · obtain ⟨_, h2, h3⟩ := L_strengthParts (a := 0) (b := 0) hD hV (by omega)
    have h4 := L_quot h3.1 (show 0 < k by omega) h3.2
    rw [if_neg hg, show mx 0 (k - g) = k - g by unfold mx; omega, L_w (x := 1000 * (v * p - 1000 * u) / (v * p) * (k - g)) (by omega), Int.tdiv_eq_ediv_of_nonneg h3.1, L_w (by omega)]

theorem L_timeOf {k : Int} (h : 0 ≤ k ∧ k ≤ 36) : impl_timeOf.f k = some (tmv k) := by
  unfold impl_timeOf.f; rw [if_pos h.1, if_pos h.2]

theorem L_tmvMonoAll : ∀ i : Nat, i < 37 → ∀ j : Nat, j < 37 → i ≤ j → tmv i ≤ tmv j := by decide +kernel

theorem L_tmvMono {i j : Int} (h0 : 0 ≤ i) (h : i ≤ j) (h1 : j ≤ 36) : tmv i ≤ tmv j := by
  obtain ⟨n, rfl⟩ : ∃ n : Nat, i = n := ⟨i.toNat, by omega⟩
  obtain ⟨m, rfl⟩ : ∃ m : Nat, j = m := ⟨j.toNat, by omega⟩
  exact L_tmvMonoAll n (by omega) m (by omega) (by omega)

theorem L_slowIff {s t : Int} (hs : 0 ≤ s) (ht : 0 ≤ t ∧ t ≤ 36) : 1000000 ≤ tmv t * s ↔ D_slow s ≤ t := by
  obtain ⟨_, _, h3, h4⟩ := L_slowFrom s 37 0 (by omega) (by omega)
  have hr := L_slowRange s
  constructor
  · intro h
    rcases Int.lt_or_le t (D_slow s) with hlt | hle
    · have := h3 t ht.1 hlt
      omega
    · exact hle
  · intro h
    have h5 := h4 (by unfold D_slow at h; omega)
    have h6 := L_tmvMono (i := D_slow s) (j := t) hr.1 h ht.2
    have h7 : tmv (D_slow s) * s ≤ tmv t * s := Int.mul_le_mul_of_nonneg_right h6 hs
    unfold D_slow at h7
    omega

theorem L_implCan {p k c d v u g a t : Int} (hD : D_dev p k c d) (hV : D_vol p v u g) (ha : 1 ≤ a ∧ a ≤ 5000) (ht : 0 ≤ t ∧ t ≤ 36) :
    impl_Bath_canDevelop.f v u g p k c d a t = some (decide (D_can p k v u g a t)) := by
  unfold impl_Bath_canDevelop.f
  have hs := L_strengthRange hD hV
  have hv := hV
  unfold D_vol at hv
  rw [L_implStrength hD hV]
  simp only [Option.bind_some]
  rw [L_timeOf ht]
  simp only [Option.bind_some]
  rw [L_tms ht hs, L_w (x := u + a) (by omega), L_isBath hD]
  have hi := L_slowIff hs.1 ht
  by_cases h : 1000000 ≤ tmv t * D_strength p k v u g
  · rw [if_pos h]
    simp only [Option.bind_some]
    refine L_sd ?_
    unfold D_can
    exact ⟨fun x => ⟨hi.mp h, x⟩, fun x => x.2⟩
  · rw [if_neg h]
    refine L_sf ?_
    unfold D_can
    exact fun x => h (hi.mpr x.1)

theorem L_lfLeast {p k v u g c d a t : Int} (hD : D_dev p k c d) (hV : D_vol p v u g) (ha : 1 ≤ a ∧ a ≤ 5000) (ht : 0 ≤ t ∧ t ≤ 36) (e : Nat) : ∀ (n : Nat) (m : Int), 0 ≤ m → m + e = v + 1 → e < n →
    impl_Bath_leastFor.lf (fun x y z => impl_Bath_canDevelop.f x y z p k c d a t) v u g n m = some (D_leastM p k v u g a t e m) := by
  induction e with
  | zero =>
    intro n m h0 he hn
    obtain ⟨n, rfl⟩ : ∃ q, n = q + 1 := ⟨n - 1, by omega⟩
    simp only [impl_Bath_leastFor.lf, D_leastM]
    rw [if_neg (by omega)]
  | succ e ih =>
    intro n m h0 he hn
    obtain ⟨n, rfl⟩ : ∃ q, n = q + 1 := ⟨n - 1, by omega⟩
    have hv : v ≤ 20000 := by unfold D_vol at hV; omega
    simp only [impl_Bath_leastFor.lf, D_leastM]
    rw [if_pos (by omega), L_implFill hV ⟨h0, by omega⟩]
    simp only [Option.bind_some]
    rw [L_implCan hD (L_fillVol hV ⟨h0, by omega⟩) ha ht]
    simp only [Option.bind_some, decide_eq_true_eq]
    by_cases hq : D_fillCan p k v u g a t m
    · rw [if_pos hq]
      unfold D_fillCan at hq
      rw [if_pos hq]
    · rw [if_neg hq]
      unfold D_fillCan at hq
      rw [if_neg hq, L_w (x := m + 1) (by omega), ih n (m + 1) (by omega) (by omega) (by omega)]

theorem L_lrepLoops {p k c d t : Int} (hc : -128 ≤ c ∧ c ≤ 127) (hd : -128 ≤ d ∧ d ≤ 127) (hD : D_dev p k c d) (ht : 0 ≤ t ∧ t ≤ 36) (l : List Int) (hl : ∀ x ∈ l, 1 ≤ x ∧ x ≤ 5000) (hn : l.length ≤ 1048576) (e : Nat) :
    ∀ (n n' : Nat) (o : List Int) (sm i v u g : Int), D_vol p v u g → 0 ≤ i → i + e = l.length → (o.length : Int) ≤ i → 40200 * e + 200 ≤ n → e < n' →
    spec_LeastReplenished.l0 n l t o sm i p k c d v u g = some (D_lrep p k c d t (l.drop i.toNat) o sm v u g) ∧ impl_LeastReplenished.l0 p k c d l t n' o sm i v u g = some (D_lrep p k c d t (l.drop i.toNat) o sm v u g) := by
  induction e with
  | zero =>
    intro n n' o sm i v u g hV h0 hi ho hk hk'
    obtain ⟨n, rfl⟩ : ∃ q, n = q + 1 := ⟨n - 1, by omega⟩
    obtain ⟨n', rfl⟩ : ∃ q, n' = q + 1 := ⟨n' - 1, by omega⟩
    simp only [spec_LeastReplenished.l0, impl_LeastReplenished.l0]
    rw [if_neg (by omega), if_neg (by omega), List.drop_eq_nil_of_le (by omega)]
    exact ⟨rfl, rfl⟩
  | succ e ih =>
    intro n n' o sm i v u g hV h0 hi ho hk hk'
    obtain ⟨n, rfl⟩ : ∃ q, n = q + 1 := ⟨n - 1, by omega⟩
    obtain ⟨n', rfl⟩ : ∃ q, n' = q + 1 := ⟨n' - 1, by omega⟩
    have hv : 1 ≤ v ∧ v ≤ 20000 := by unfold D_vol at hV; omega
    obtain ⟨hlt, ea⟩ := L_rdGet (l := l) (i := i) h0 (by omega)
    have ha := hl _ (List.getElem_mem hlt)
    rw [← ea] at ha
    have q : l.drop i.toNat = rd l i :: l.drop (i + 1).toNat := by rw [List.drop_eq_getElem_cons hlt, ea, show (i + 1).toNat = i.toNat + 1 by omega]
    obtain ⟨m1, m2, m3⟩ := L_leastMRange p k v u g (rd l i) t (v.toNat + 1) 0
    constructor
    · obtain ⟨x, y, z, r1, r2⟩ := L_specReady (v := v) (u := u) (g := g) hc hd hD hV ha ht (n := n) (by omega)
      have f0 := L_fill0 hV
      have hcan : D_can p k v u g (rd l i) t ↔ D_fillCan p k v u g (rd l i) t 0 := by unfold D_fillCan; rw [f0]
      obtain ⟨n2, hn2, h2⟩ := L_specLeastL1 hc hd hD hV ha ht l i h0 (by omega) rfl o (by omega) sm v.toNat n 0 x y z (by omega) (by omega) (by omega) (fun h => by rw [f0]; exact r2 (hcan.2 h))
      simp only [spec_LeastReplenished.l0]
      rw [if_pos (by omega), if_pos h0, r1]
      simp only [Option.bind_some]
      rw [decide_eq_decide.mpr hcan, h2, q]
      unfold D_lrep
      split
      · rename_i hM
        have hF := m3 (by omega)
        have hV2 : D_vol p (D_fill v u g (D_leastM p k v u g (rd l i) t (v.toNat + 1) 0)).1 ((D_fill v u g (D_leastM p k v u g (rd l i) t (v.toNat + 1) 0)).2.1 + rd l i) (D_fill v u g (D_leastM p k v u g (rd l i) t (v.toNat + 1) 0)).2.2 := hF.2
        rw [L_w (x := i + 1) (by omega)]
        exact (ih n2 n' _ _ (i + 1) _ _ _ hV2 (by omega) (by omega) (by simp; omega) (by omega) (by omega)).1
      · rfl
    · simp only [impl_LeastReplenished.l0]
      rw [if_pos (by omega), L_lfLeast hD hV ha ht (v.toNat + 1) _ 0 (by omega) (by omega) (by omega), q]
      simp only [Option.bind_some]
      unfold D_lrep
      by_cases hM : D_leastM p k v u g (rd l i) t (v.toNat + 1) 0 ≤ v
      · have hF := m3 (by omega)
        have hV2 : D_vol p (D_fill v u g (D_leastM p k v u g (rd l i) t (v.toNat + 1) 0)).1 ((D_fill v u g (D_leastM p k v u g (rd l i) t (v.toNat + 1) 0)).2.1 + rd l i) (D_fill v u g (D_leastM p k v u g (rd l i) t (v.toNat + 1) 0)).2.2 := hF.2
        have hu : wrap64 ((D_fill v u g (D_leastM p k v u g (rd l i) t (v.toNat + 1) 0)).2.1 + rd l i) = (D_fill v u g (D_leastM p k v u g (rd l i) t (v.toNat + 1) 0)).2.1 + rd l i := L_w (by unfold D_vol at hV2; omega)
        rw [if_neg (by omega), if_pos hM, L_implFill hV ⟨by omega, hM⟩]
        simp only [Option.bind_some]
        rw [if_pos (by omega), L_w (x := i + 1) (by omega), hu]
        exact (ih (40200 * e + 200) n' _ _ (i + 1) _ _ _ hV2 (by omega) (by omega) (by simp; omega) (by omega) (by omega)).2
      · rw [if_pos (by omega), if_neg hM]

theorem L_leastRepl {p k c d v u g t : Int} (hc : -128 ≤ c ∧ c ≤ 127) (hd : -128 ≤ d ∧ d ≤ 127) (hD : D_dev p k c d) (hV : D_vol p v u g) (l : List Int) (hl : l.length ≤ 60) (hA : D_areas l t) {n : Nat} (hn : 40200 * l.length + 300 ≤ n) :
    spec_LeastReplenished.f n p k c d v u g l t = some (D_lrep p k c d t l [] 0 v u g) ∧ impl_LeastReplenished.f p k c d v u g l t = some (D_lrep p k c d t l [] 0 v u g) := by
  unfold spec_LeastReplenished.f impl_LeastReplenished.f
  rw [L_specAreas hc hd l (by omega) (by omega), L_implAreas hc hd l]
  simp only [Option.bind_some]
  rw [if_pos (show D_dev p k c d ∧ D_vol p v u g from ⟨hD, hV⟩), if_neg (show ¬ (l.length : Int) > 60 by omega), if_pos hA]
  simp only [if_true]
  exact L_lrepLoops hc hd hD hA.2 l hA.1 (by omega) l.length n (l.length + 1) [] 0 0 v u g hV (by omega) (by omega) (by simp) (by omega) (by omega)

theorem L_specReplenish {p k c d v u g m : Int} (hc : -128 ≤ c ∧ c ≤ 127) (hd : -128 ≤ d ∧ d ≤ 127) :
    spec_Replenish.f p k c d v u g m = some (if D_dev p k c d ∧ D_vol p v u g then (if 0 ≤ m ∧ m ≤ v then ((D_fill v u g m).1, (D_fill v u g m).2.1, (D_fill v u g m).2.2, 0) else (0, 0, 0, 2)) else (0, 0, 0, 1)) := by
  unfold spec_Replenish.f
  rw [L_specOk hc hd, L_in]
  simp only [Option.bind_some, decide_eq_true_eq]
  split
  · rename_i h
    split
    · rename_i hm; rw [L_specFill h.2 hm]; rfl
    · rfl
  · rfl

theorem L_specStrengthOf {p k c d v u g : Int} (hc : -128 ≤ c ∧ c ≤ 127) (hd : -128 ≤ d ∧ d ≤ 127) : spec_StrengthOf.f p k c d v u g = some (if D_dev p k c d ∧ D_vol p v u g then (D_strength p k v u g, 0) else (0, 1)) := by
  unfold spec_StrengthOf.f
  rw [L_specOk hc hd]
  simp only [Option.bind_some, decide_eq_true_eq]
  split
  · rename_i h; rw [L_specStrength h.1 h.2]; rfl
  · rfl

theorem L_implSlowFrom {s : Int} (hs : 0 ≤ s ∧ s ≤ 1000) (d : Nat) : ∀ (k : Nat) (i : Int), 0 ≤ i → i + d = 37 → d < k → impl_slower.l0 k s i = some (D_slowFrom s d i) := by
  induction d with
  | zero =>
    intro k i h0 hd hk
    obtain ⟨k, rfl⟩ : ∃ m, k = m + 1 := ⟨k - 1, by omega⟩
    simp only [impl_slower.l0, D_slowFrom, L_areThirds, Option.bind_some, decide_eq_true_eq]
    rw [if_neg (by omega)]
  | succ d ih =>
    intro k i h0 hd hk
    obtain ⟨k, rfl⟩ : ∃ m, k = m + 1 := ⟨k - 1, by omega⟩
    simp only [impl_slower.l0, D_slowFrom, L_areThirds, Option.bind_some, decide_eq_true_eq]
    rw [if_pos (by omega), L_timeOf (by omega)]
    simp only [Option.bind_some]
    rw [L_tms (by omega) hs]
    by_cases h : tmv i * s < 1000000
    · rw [if_pos h, L_w (x := i + 1) (by omega), if_pos h]
      exact ih k (i + 1) (by omega) (by omega) (by omega)
    · rw [if_neg h, if_neg h]

theorem L_implSlower {s : Int} (hs : 0 ≤ s ∧ s ≤ 1000) {k : Nat} (hk : 38 ≤ k) : impl_slower.f k s = some (D_slow s) :=
  L_implSlowFrom hs 37 k 0 (by omega) (by omega) (by omega)

theorem L_implSlowerBy (s : Int) {k : Nat} (hk : 38 ≤ k) : impl_SlowerBy.f k s = some (if 0 ≤ s ∧ s ≤ 1000 then (if D_slow s ≤ 36 then (D_slow s, 0) else (0, 6)) else (0, 2)) := by
  unfold impl_SlowerBy.f impl_isStrength.f
  rw [L_within]
  simp only [Option.bind_some, decide_eq_true_eq]
  split
  · rename_i hs
    have := L_slowRange s
    rw [L_implSlower hs hk]
    simp only [Option.bind_some, L_areThirds, decide_eq_true_eq]
    by_cases h : D_slow s ≤ 36
    · rw [if_pos (by omega), if_pos h]
    · rw [if_neg (by omega), if_neg h]
  · rfl

def D_sheet (p k c d v u g a : Int) : Int × Int × Int × Int :=
  if D_dev p k c d ∧ D_vol p v u g then (if 1 ≤ a ∧ a ≤ 5000 then (if D_slow (D_strength p k v u g) ≤ 36 ∧ D_vol p v (u + a) g then (v, u + a, g, 0) else (0, 0, 0, 4)) else (0, 0, 0, 2)) else (0, 0, 0, 1)

theorem L_checked {p k c d v u g e : Int} (hD : D_dev p k c d) : impl_checked.f p k c d v u g e = some (if D_vol p v u g then (v, u, g, 0) else (0, 0, 0, e)) := by
  unfold impl_checked.f
  rw [L_isBath hD]
  simp only [Option.bind_some, decide_eq_true_eq]
  split <;> rfl

theorem L_implDevSheet {p k c d v u g a : Int} (hc : -128 ≤ c ∧ c ≤ 127) (hd : -128 ≤ d ∧ d ≤ 127) {n : Nat} (hn : 38 ≤ n) : impl_DevelopSheet.f n p k c d v u g a = some (D_sheet p k c d v u g a) := by
  unfold impl_DevelopSheet.f D_sheet
  rw [L_implBath hc hd, L_isArea]
  simp only [Option.bind_some, decide_eq_true_eq]
  by_cases h : D_dev p k c d ∧ D_vol p v u g
  · rw [if_pos h, if_pos h]
    by_cases h1 : 1 ≤ a ∧ a ≤ 5000
    · rw [if_pos h1, if_pos h1, L_implStrength h.1 h.2]
      have hs := L_strengthRange h.1 h.2
      have hr := L_slowRange (D_strength p k v u g)
      have hv := h.2
      unfold D_vol at hv
      simp only [Option.bind_some]
      rw [L_implSlower hs hn]
      simp only [Option.bind_some, L_areThirds, decide_eq_true_eq]
      rw [L_w (x := u + a) (by omega), L_checked h.1]
      simp only [Option.bind_some]
      by_cases h2 : D_slow (D_strength p k v u g) ≤ 36
      · rw [if_pos ⟨hr.1, h2⟩]
        by_cases h3 : D_vol p v (u + a) g
        · rw [if_pos h3, if_pos ⟨h2, h3⟩]
        · rw [if_neg h3, if_neg (fun x => h3 x.2)]
      · rw [if_neg (by omega), if_neg (fun x => h2 x.1)]
    · rw [if_neg h1, if_neg h1]
  · rw [if_neg h, if_neg h]

/-- one round of the law's last loop: what the four calls answer -/
theorem L_lrRound {p k c d v u g t a x : Int} (hD : D_dev p k c d) (hV : D_vol p v u g) (ha : 1 ≤ a ∧ a ≤ 200) (ht : 0 ≤ t ∧ t ≤ 36) (hx : 0 ≤ x ∧ x ≤ v) (hF : D_fillCan p k v u g a t x) :
    ∃ S K, spec_Replenish.f p k c d v u g x = some (v, u * (v - x) / v, g * (v - x) / v, 0) ∧ spec_StrengthOf.f p k c d v (u * (v - x) / v) (g * (v - x) / v) = some (S, 0) ∧ impl_SlowerBy.f 60 S = some (K, 0) ∧ K ≤ t ∧
      impl_DevelopSheet.f 60 p k c d v (u * (v - x) / v) (g * (v - x) / v) a = some (v, u * (v - x) / v + a, g * (v - x) / v, 0) ∧ D_vol p v (u * (v - x) / v + a) (g * (v - x) / v) := by
  have hD' := hD
  unfold D_dev at hD'
  have hc : -128 ≤ c ∧ c ≤ 127 := by omega
  have hd : -128 ≤ d ∧ d ≤ 127 := by omega
  have hV1 : D_vol p v (u * (v - x) / v) (g * (v - x) / v) := L_fillVol hV hx
  have hV2 : D_vol p v (u * (v - x) / v + a) (g * (v - x) / v) := hF.2
  have hs : D_slow (D_strength p k v (u * (v - x) / v) (g * (v - x) / v)) ≤ t := hF.1
  have hr := L_strengthRange hD hV1
  refine ⟨D_strength p k v (u * (v - x) / v) (g * (v - x) / v), D_slow (D_strength p k v (u * (v - x) / v) (g * (v - x) / v)), ?_, ?_, ?_, hs, ?_, hV2⟩
  · rw [L_specReplenish hc hd, if_pos ⟨hD, hV⟩, if_pos hx]; rfl
  · rw [L_specStrengthOf hc hd, if_pos ⟨hD, hV1⟩]
  · rw [L_implSlowerBy _ (by omega), if_pos hr, if_pos (by omega)]
  · rw [L_implDevSheet hc hd (by omega)]
    unfold D_sheet
    rw [if_pos ⟨hD, hV1⟩, if_pos (by omega), if_pos ⟨by omega, hV2⟩]

def D_fillFor (p k v u g s : Int) : Nat → Int → Int
  | 0, m => m
  | e + 1, m => if D_strength p k (D_fill v u g m).1 (D_fill v u g m).2.1 (D_fill v u g m).2.2 < s then D_fillFor p k v u g s e (m + 1) else m

theorem L_fullStrength {p k v u g c d : Int} (hD : D_dev p k c d) (hV : D_vol p v u g) : D_strength p k (D_fill v u g v).1 (D_fill v u g v).2.1 (D_fill v u g v).2.2 = 1000 := by
  unfold D_dev at hD
  unfold D_vol at hV
  have h0 : 0 < v * p := Int.mul_pos (by omega) (by omega)
  unfold D_fill D_strength
  simp only [Int.sub_self, Int.mul_zero, Int.zero_ediv, Int.sub_zero]
  rw [if_neg (by omega), Int.mul_ediv_cancel _ (by omega), Int.mul_ediv_cancel _ (by omega)]

theorem L_fillForLoops {p k v u g c d s : Int} (hD : D_dev p k c d) (hV : D_vol p v u g) (hs : 0 ≤ s ∧ s ≤ 1000) (e : Nat) : ∀ (n n' : Nat) (m : Int), 0 ≤ m → m + e = v → e < n → e < n' →
    spec_ReplenishFor.l0 n s m p k c d v u g = some (D_fillFor p k v u g s e m, 0) ∧
    impl_Bath_leastFor.lf (fun x y z => (impl_Bath_strength.f x y z p k c d).bind fun r => some (decide (r ≥ s))) v u g n' m = some (D_fillFor p k v u g s e m) ∧
    m ≤ D_fillFor p k v u g s e m ∧ D_fillFor p k v u g s e m ≤ v ∧
    D_strength p k (D_fill v u g (D_fillFor p k v u g s e m)).1 (D_fill v u g (D_fillFor p k v u g s e m)).2.1 (D_fill v u g (D_fillFor p k v u g s e m)).2.2 ≥ s ∧
    (∀ j, m ≤ j → j < D_fillFor p k v u g s e m → D_strength p k (D_fill v u g j).1 (D_fill v u g j).2.1 (D_fill v u g j).2.2 < s) := by
  have hVV := hV
  unfold D_vol at hVV
  induction e with
  | zero =>
    intro n n' m h0 hm hn hn'
    obtain ⟨n, rfl⟩ : ∃ q, n = q + 1 := ⟨n - 1, by omega⟩
    obtain ⟨n', rfl⟩ : ∃ q, n' = q + 1 := ⟨n' - 1, by omega⟩
    obtain rfl : m = v := by omega
    have hf := L_fullStrength hD hV
    have hfv := L_fillVol (m := m) hV (by omega)
    simp only [spec_ReplenishFor.l0, impl_Bath_leastFor.lf, D_fillFor]
    rw [L_specFill hV (by omega), L_implFill hV (by omega)]
    simp only [Option.bind_some]
    rw [L_specStrength hD hfv, L_implStrength hD hfv]
    simp only [Option.bind_some, decide_eq_true_eq]
    rw [if_neg (by omega), if_pos (by omega), if_pos (by omega)]
    exact ⟨rfl, rfl, by omega, by omega, by omega, fun j h1 h2 => by omega⟩
  | succ e ih =>
    intro n n' m h0 hm hn hn'
    obtain ⟨n, rfl⟩ : ∃ q, n = q + 1 := ⟨n - 1, by omega⟩
    obtain ⟨n', rfl⟩ : ∃ q, n' = q + 1 := ⟨n' - 1, by omega⟩
    have hfv := L_fillVol (m := m) hV (by omega)
    obtain ⟨a1, a2, a3, a4, a5, a6⟩ := ih n n' (m + 1) (by omega) (by omega) (by omega) (by omega)
    simp only [spec_ReplenishFor.l0, impl_Bath_leastFor.lf, D_fillFor]
    rw [L_specFill hV (by omega), L_implFill hV (by omega)]
    simp only [Option.bind_some]
    rw [L_specStrength hD hfv, L_implStrength hD hfv]
    simp only [Option.bind_some, decide_eq_true_eq]
    by_cases h : D_strength p k (D_fill v u g m).1 (D_fill v u g m).2.1 (D_fill v u g m).2.2 < s
    · rw [if_pos h, if_pos h, if_pos (by omega), if_neg (by omega), L_w (x := m + 1) (by omega)]
      refine ⟨a1, a2, by omega, a4, a5, fun j h1 h2 => ?_⟩
      by_cases e : j = m
      · rw [e]; exact h
      · exact a6 j (by omega) h2
    · rw [if_neg h, if_neg h, if_pos (by omega), if_pos (by omega)]
      exact ⟨rfl, rfl, by omega, by omega, by omega, fun j h1 h2 => by omega⟩

theorem L_replenishFor {p k c d v u g s : Int} (hc : -128 ≤ c ∧ c ≤ 127) (hd : -128 ≤ d ∧ d ≤ 127) {n : Nat} (hn : 20002 ≤ n) :
    ∃ r, spec_ReplenishFor.f n p k c d v u g s = some r ∧ impl_ReplenishFor.f p k c d v u g s = some r ∧
      (D_dev p k c d → D_vol p v u g → (0 ≤ s ∧ s ≤ 1000) → r.2 = 0 ∧ 0 ≤ r.1 ∧ r.1 ≤ v ∧ D_strength p k (D_fill v u g r.1).1 (D_fill v u g r.1).2.1 (D_fill v u g r.1).2.2 ≥ s ∧
        (∀ j, 0 ≤ j → j < r.1 → D_strength p k (D_fill v u g j).1 (D_fill v u g j).2.1 (D_fill v u g j).2.2 < s)) := by
  unfold spec_ReplenishFor.f impl_ReplenishFor.f impl_isStrength.f
  rw [L_specOk hc hd, L_implBath hc hd, L_in, L_within]
  simp only [Option.bind_some, decide_eq_true_eq]
  by_cases h : D_dev p k c d ∧ D_vol p v u g
  · rw [if_pos h, if_pos h]
    by_cases h1 : 0 ≤ s ∧ s ≤ 1000
    · rw [if_pos h1, if_pos h1]
      have hv := h.2
      unfold D_vol at hv
      obtain ⟨a1, a2, a3, a4, a5, a6⟩ := L_fillForLoops h.1 h.2 h1 v.toNat n (v + 2).toNat 0 (by omega) (by omega) (by omega) (by omega)
      rw [a1, a2]
      exact ⟨_, rfl, rfl, fun _ _ _ => ⟨rfl, a3, a4, a5, a6⟩⟩
    · rw [if_neg h1, if_neg h1]
      exact ⟨_, rfl, rfl, fun _ _ x => absurd x h1⟩
  · rw [if_neg h, if_neg h]
    exact ⟨_, rfl, rfl, fun x y => absurd ⟨x, y⟩ h⟩

theorem L_implReplenish {p k c d v u g m : Int} (hc : -128 ≤ c ∧ c ≤ 127) (hd : -128 ≤ d ∧ d ≤ 127) :
    impl_Replenish.f p k c d v u g m = some (if D_dev p k c d ∧ D_vol p v u g then (if 0 ≤ m ∧ m ≤ v then ((D_fill v u g m).1, (D_fill v u g m).2.1, (D_fill v u g m).2.2, 0) else (0, 0, 0, 2)) else (0, 0, 0, 1)) := by
  unfold impl_Replenish.f
  rw [L_implBath hc hd, L_within]
  simp only [Option.bind_some, decide_eq_true_eq]
  split
  · rename_i h
    split
    · rename_i hm; rw [L_implFill h.2 hm]; rfl
    · rfl
  · rfl

theorem L_implStrengthOf {p k c d v u g : Int} (hc : -128 ≤ c ∧ c ≤ 127) (hd : -128 ≤ d ∧ d ≤ 127) : impl_StrengthOf.f p k c d v u g = some (if D_dev p k c d ∧ D_vol p v u g then (D_strength p k v u g, 0) else (0, 1)) := by
  unfold impl_StrengthOf.f
  rw [L_implBath hc hd]
  simp only [Option.bind_some, decide_eq_true_eq]
  split
  · rename_i h; rw [L_implStrength h.1 h.2]; rfl
  · rfl

/-- the law's first part: what replenishing for a strength answers -/
theorem L_repFirst {p k c d v u g s : Int} (hD : D_dev p k c d) (hV : D_vol p v u g) (hs : 0 ≤ s ∧ s ≤ 1000) :
    ∃ m u' g' S, impl_ReplenishFor.f p k c d v u g s = some (m, 0) ∧ spec_ReplenishFor.f 20002 p k c d v u g s = some (m, 0) ∧ 0 ≤ m ∧ m ≤ v ∧ impl_Replenish.f p k c d v u g m = some (v, u', g', 0) ∧ impl_StrengthOf.f p k c d v u' g' = some (S, 0) ∧ s ≤ S ∧
      (0 < m → ∃ u'' g'' S', impl_Replenish.f p k c d v u g (m - 1) = some (v, u'', g'', 0) ∧ impl_StrengthOf.f p k c d v u'' g'' = some (S', 0) ∧ S' < s) := by
  have hD' := hD
  unfold D_dev at hD'
  have hc : -128 ≤ c ∧ c ≤ 127 := by omega
  have hd : -128 ≤ d ∧ d ≤ 127 := by omega
  obtain ⟨r, e1, e2, h⟩ := L_replenishFor (v := v) (u := u) (g := g) (s := s) (k := k) (p := p) hc hd (n := 20002) (by omega)
  obtain ⟨q1, q2, q3, q4, q5⟩ := h hD hV hs
  obtain ⟨m, r2⟩ := r
  obtain rfl : r2 = 0 := q1
  have hV1 : D_vol p v (u * (v - m) / v) (g * (v - m) / v) := L_fillVol hV ⟨q2, q3⟩
  refine ⟨m, u * (v - m) / v, g * (v - m) / v, D_strength p k v (u * (v - m) / v) (g * (v - m) / v), e2, e1, q2, q3, ?_, ?_, q4, fun h0 => ?_⟩
  · rw [L_implReplenish hc hd, if_pos ⟨hD, hV⟩, if_pos ⟨q2, q3⟩]; rfl
  · rw [L_implStrengthOf hc hd, if_pos ⟨hD, hV1⟩]
  · have q3' : m ≤ v := q3
    have hV2 : D_vol p v (u * (v - (m - 1)) / v) (g * (v - (m - 1)) / v) := L_fillVol hV ⟨by omega, by omega⟩
    refine ⟨u * (v - (m - 1)) / v, g * (v - (m - 1)) / v, D_strength p k v (u * (v - (m - 1)) / v) (g * (v - (m - 1)) / v), ?_, ?_, q5 (m - 1) (by omega) (by show m - 1 < m; omega)⟩
    · rw [L_implReplenish hc hd, if_pos ⟨hD, hV⟩, if_pos (by omega)]; rfl
    · rw [L_implStrengthOf hc hd, if_pos ⟨hD, hV2⟩]

theorem L_leftLoops {p k c d v g a t : Int} (hc : -128 ≤ c ∧ c ≤ 127) (hd : -128 ≤ d ∧ d ≤ 127) (hD : D_dev p k c d) (ha : 1 ≤ a ∧ a ≤ 5000) (ht : 0 ≤ t ∧ t ≤ 36) (e : Nat) :
    ∀ (n : Nat) (u i : Int), D_vol p v u g → v * p - 1000 * u ≤ e → e + 40 ≤ n → 0 ≤ i → i + e ≤ 4000000000000 →
    ∃ r, spec_SheetsLeft.l0 n a t i p k c d v u g = some (r, 0) ∧ impl_SheetsLeft.l0 n a t i p k c d v u g = some (r, 0) ∧ i ≤ r ∧ 1000 * ((r - i) * a) ≤ v * p - 1000 * u := by
  induction e using Nat.strongRecOn with
  | _ e ih =>
    intro n u i hV he hn hi hi2
    obtain ⟨n, rfl⟩ : ∃ m, n = m + 1 := ⟨n - 1, by omega⟩
    obtain ⟨x, y, z, e1, e2⟩ := L_specReady hc hd hD hV ha ht (n := n) (by omega)
    have e3 := L_implCan hD hV ha ht
    have hv := hV
    unfold D_vol at hv
    simp only [spec_SheetsLeft.l0, impl_SheetsLeft.l0]
    rw [e1, e3]
    simp only [Option.bind_some, decide_eq_true_eq]
    by_cases h : D_can p k v u g a t
    · obtain ⟨rfl, rfl, rfl⟩ := e2 h
      rw [if_pos h, if_pos h, L_w (x := i + 1) (by omega), L_w (x := u + a) (by omega)]
      have hV2 := h.2
      have hv2 := hV2
      unfold D_vol at hv2
      obtain ⟨r, h1, h2, h3, h4⟩ := ih (e - 1000) (by omega) n (u + a) (i + 1) hV2 (by omega) (by omega) (by omega) (by omega)
      refine ⟨r, h1, h2, by omega, ?_⟩
      have h5 : (r - i) * a = (r - (i + 1)) * a + a := by rw [show r - i = (r - (i + 1)) + 1 by omega, Int.add_mul, Int.one_mul]
      omega
    · rw [if_neg h, if_neg h]
      exact ⟨i, rfl, rfl, by omega, by simp; omega⟩

theorem L_leftRounds {p k c d v u g a t : Int} (hc : -128 ≤ c ∧ c ≤ 127) (hd : -128 ≤ d ∧ d ≤ 127) (hD : D_dev p k c d) (hV : D_vol p v u g) (ha : 1 ≤ a ∧ a ≤ 5000) (ht : 0 ≤ t ∧ t ≤ 36) {n : Nat} (hn : 2000000100 ≤ n) :
    ∃ r, spec_SheetsLeft.l0 n a t 0 p k c d v u g = some (r, 0) ∧ impl_SheetsLeft.l0 n a t 0 p k c d v u g = some (r, 0) ∧ 0 ≤ r ∧ 1000 * (r * a) ≤ v * p - 1000 * u := by
  have hv := hV
  have hDD := hD
  unfold D_vol at hv
  unfold D_dev at hDD
  have m := L_mulb (x := v) (y := p) (X := 20000) (Y := 100000) (by omega) (by omega) (by omega) (by omega)
  obtain ⟨r, h1, h2, h3, h4⟩ := L_leftLoops hc hd hD ha ht 2000000000 n u 0 hV (by omega) (by omega) (by omega) (by omega)
  exact ⟨r, h1, h2, h3, by simpa using h4⟩

theorem L_sheetsLeft {p k c d v u g a t : Int} (hc : -128 ≤ c ∧ c ≤ 127) (hd : -128 ≤ d ∧ d ≤ 127) {n : Nat} (hn : 2000000101 ≤ n) :
    ∃ r m, spec_SheetsLeft.f n p k c d v u g a t = some (r, m) ∧ impl_SheetsLeft.f n p k c d v u g a t = some (r, m) ∧
      (D_dev p k c d → D_vol p v u g → (1 ≤ a ∧ a ≤ 5000) → (0 ≤ t ∧ t ≤ 36) → m = 0 ∧ 0 ≤ r ∧ 1000 * (r * a) ≤ v * p - 1000 * u) := by
  obtain ⟨n, rfl⟩ : ∃ m, n = m + 1 := ⟨n - 1, by omega⟩
  unfold spec_SheetsLeft.f impl_SheetsLeft.f
  rw [L_specOk hc hd, L_implBath hc hd]
  simp only [Option.bind_some, L_in, L_areThirds, L_isArea, decide_eq_true_eq]
  by_cases h : D_dev p k c d ∧ D_vol p v u g
  · rw [if_pos h, if_pos h]
    by_cases h1 : 1 ≤ a ∧ a ≤ 5000
    · rw [if_pos h1, if_pos h1]
      by_cases h2 : 0 ≤ t ∧ t ≤ 36
      · rw [if_pos h2]
        have e : (!decide (0 ≤ t ∧ t ≤ 36)) = false := by simp [h2]
        rw [e]
        simp only [spec_SheetsLeft.j0, Bool.false_eq_true, if_false]
        obtain ⟨r, a1, _, a3, a4⟩ := L_leftRounds hc hd h.1 h.2 h1 h2 (n := n) (by omega)
        obtain ⟨r', _, b2, _, _⟩ := L_leftRounds hc hd h.1 h.2 h1 h2 (n := n + 1) (by omega)
        obtain ⟨r'', c1, c2, _, _⟩ := L_leftRounds hc hd h.1 h.2 h1 h2 (n := 2000000100) (by omega)
        have q1 := at_rounds (g := fun k_ => spec_SheetsLeft.l0 k_ a t 0 p k c d v u g) (fun k_ => (spec_SheetsLeft.mono_l k_).2 _ _ _ _ _ _ _ _ _ _) (show 2000000100 ≤ n by omega) c1
        have q2 := at_rounds (g := fun k_ => impl_SheetsLeft.l0 k_ a t 0 p k c d v u g) (fun k_ => impl_SheetsLeft.mono_l k_ _ _ _ _ _ _ _ _ _ _) (show 2000000100 ≤ n + 1 by omega) c2
        have e1 : r'' = r := by have := a1.symm.trans q1; simp at this; exact this.symm
        have e2 : r'' = r' := by have := b2.symm.trans q2; simp at this; exact this.symm
        exact ⟨r, 0, a1, by rw [b2, ← e2, e1], fun _ _ _ _ => ⟨rfl, a3, a4⟩⟩
      · rw [if_neg h2]
        have e : (!decide (0 ≤ t ∧ t ≤ 36)) = true := by simp [h2]
        rw [e]
        simp only [spec_SheetsLeft.j0, if_true]
        exact ⟨0, 2, rfl, rfl, fun _ _ _ x => absurd x h2⟩
    · rw [if_neg h1, if_neg h1]
      simp only [spec_SheetsLeft.j0, if_true]
      exact ⟨0, 2, rfl, rfl, fun _ _ x => absurd x h1⟩
  · rw [if_neg h, if_neg h]
    exact ⟨0, 1, rfl, rfl, fun x y => absurd ⟨x, y⟩ h⟩

/-- the law's second part: sheets that are left -/
theorem L_repLeft {p k c d v u g a t : Int} (hD : D_dev p k c d) (hV : D_vol p v u g) (ha : 1 ≤ a ∧ a ≤ 5000) (ht : 0 ≤ t ∧ t ≤ 36) :
    ∃ r, spec_SheetsLeft.f 2000000101 p k c d v u g a t = some (r, 0) ∧ impl_SheetsLeft.f 2000000101 p k c d v u g a t = some (r, 0) ∧ wrap64 (r * a) = r * a ∧ wrap64 (v * p) = v * p ∧ (v * p).tdiv 1000 = v * p / 1000 ∧ wrap64 (v * p / 1000) = v * p / 1000 ∧ wrap64 (v * p / 1000 - u) = v * p / 1000 - u ∧ ¬ (v * p / 1000 - u < r * a) := by
  have hD' := hD
  have hV' := hV
  unfold D_dev at hD'
  unfold D_vol at hV'
  have hc : -128 ≤ c ∧ c ≤ 127 := by omega
  have hd : -128 ≤ d ∧ d ≤ 127 := by omega
  obtain ⟨r, m, e1, e2, h⟩ := L_sheetsLeft (v := v) (u := u) (g := g) (a := a) (t := t) (k := k) (p := p) hc hd (n := 2000000101) (by omega)
  obtain ⟨rfl, h0, h1⟩ := h hD hV ha ht
  have m1 := L_mulb (x := v) (y := p) (X := 20000) (Y := 100000) (by omega) (by omega) (by omega) (by omega)
  have m2 : 0 ≤ r * a := Int.mul_nonneg h0 (by omega)
  refine ⟨r, e1, e2, L_w (by omega), L_w (by omega), Int.tdiv_eq_ediv_of_nonneg m1.1, L_w (by omega), L_w (by omega), by omega⟩

theorem L_rdMem (m : List Int) {i : Int} (h0 : 0 ≤ i) (h : i < m.length) : rd m i ∈ m := by
  unfold rd
  have hh : i.toNat < m.length := by omega
  rw [show m.getD i.toNat 0 = m[i.toNat] by simp [List.getD, List.getElem?_eq_getElem hh]]
  exact List.getElem_mem hh

theorem L_among {l : List Int} (hl : ∀ x ∈ l, 0 ≤ x ∧ x ≤ 255) {a : Int} (ha : 0 ≤ a ∧ a ≤ 4611686018427387000) (z : Int) (m : List Int) (hm : 0 < m.length) :
    ∃ x b y, spec_l00Src_among.f l a z m = some (x, b, y) ∧ x ∈ m ∧ a ≤ b ∧ b ≤ a + 2 := by
  unfold spec_l00Src_among.f
  obtain ⟨x, b, y, e, h0, hx, h1, h2⟩ := L_pick hl ha z (m.length : Int)
  rw [e]
  simp only [Option.bind_some]
  rw [if_pos h0, if_pos (by omega)]
  exact ⟨_, _, _, rfl, L_rdMem m h0 (by omega), h1, h2⟩

theorem L_w8 {x : Int} (h : -128 ≤ x ∧ x ≤ 127) : IntKind.i8.wrap x = x := by simp [IntKind.wrap, IntKind.bits, IntKind.signed]; omega

theorem L_devDrawn {l : List Int} (hl : ∀ x ∈ l, 0 ≤ x ∧ x ≤ 255) {a : Int} (ha : 0 ≤ a ∧ a ≤ 4611686018427386000) (z : Int) :
    ∃ p k c d b y, spec_l04DeveloperDrawn.f l a z = some (p, k, c, d, b, y) ∧ D_dev p k c d ∧ p ≤ 5000 ∧ a ≤ b ∧ b ≤ a + 8 := by
  unfold spec_l04DeveloperDrawn.f
  obtain ⟨p, b, y, e, hp, h1, h2⟩ := L_among hl (a := a) (by omega) z [100, 1000, 3000, 5000] (by decide)
  rw [e]
  simp only [Option.bind_some]
  obtain ⟨k, b1, y1, e1, hk, h3, h4⟩ := L_among hl (a := b) (by omega) y [1, 20, 100, 500] (by decide)
  rw [e1]
  simp only [Option.bind_some]
  obtain ⟨c, b2, y2, e2, hc, h5, h6⟩ := L_among hl (a := b1) (by omega) y1 [18, 20, 24] (by decide)
  rw [e2]
  simp only [Option.bind_some]
  obtain ⟨d, b3, y3, e3, hd0, hd, h7, h8⟩ := L_pick hl (a := b2) (by omega) y2 4
  rw [e3]
  simp only [Option.bind_some]
  simp only [List.mem_cons, List.not_mem_nil, or_false] at hp hk hc
  rw [L_w (x := 1 + d) (by omega), L_w8 (x := 1 + d) (by omega), L_w8 (x := c) (by omega)]
  refine ⟨_, _, _, _, _, _, rfl, ?_, by omega, by omega, by omega⟩
  unfold D_dev
  omega

theorem L_one {l : List Int} (hl : ∀ x ∈ l, 0 ≤ x ∧ x ≤ 255) {a : Int} (ha : 0 ≤ a ∧ a ≤ 4611686018427387000) (z n : Int) :
    ∃ x b y, spec_l00Src_one.f l a z n = some (x, b, y) ∧ a ≤ b ∧ b ≤ a + 2 := by
  unfold spec_l00Src_one.f
  obtain ⟨x, b, y, e, _, _, h1, h2⟩ := L_pick hl ha z n
  rw [e]
  exact ⟨_, _, _, rfl, h1, h2⟩

theorem L_bathDrawn {l : List Int} (hl : ∀ x ∈ l, 0 ≤ x ∧ x ≤ 255) {n : Nat} (hn : 1 ≤ n) :
    ∃ p k c d v u g, spec_A2Bath.f n l = some (p, k, c, d, v, u, g) ∧ D_dev p k c d ∧ D_vol p v u g ∧ v ≤ 2000 ∧ p ≤ 5000 := by
  obtain ⟨n, rfl⟩ : ∃ m, n = m + 1 := ⟨n - 1, by omega⟩
  unfold spec_A2Bath.f spec_l00From.f
  simp only [Option.bind_some]
  unfold spec_l04Drawn.f
  obtain ⟨p, k, c, d, b, y, e, hD, hp, h1, h2⟩ := L_devDrawn hl (a := 0) (by omega) 0
  rw [e]
  simp only [Option.bind_some]
  obtain ⟨v, b1, y1, e1, hv, h3, h4⟩ := L_among hl (a := b) (by omega) y [1, 100, 500, 1000, 2000] (by decide)
  rw [e1]
  simp only [Option.bind_some]
  simp only [List.mem_cons, List.not_mem_nil, or_false] at hv
  have hD' := hD
  unfold D_dev at hD'
  have hm := L_mulb (x := v) (y := p) (X := 2000) (Y := 5000) (by omega) (by omega) (by omega) (by omega)
  rw [L_w (x := v * p) (by omega), Int.tdiv_eq_ediv_of_nonneg hm.1, L_w (x := v * p / 1000) (by omega), L_w (x := v * p / 1000 + 1) (by omega)]
  obtain ⟨u, b2, y2, e2, hu0, hu, h5, h6⟩ := L_pick hl (a := b1) (by omega) y1 (v * p / 1000 + 1)
  rw [e2]
  simp only [Option.bind_some]
  obtain ⟨o, b3, y3, e3, h7, h8⟩ := L_one hl (a := b2) (by omega) y2 2
  rw [e3]
  simp only [Option.bind_some]
  have hu2 : 1000 * u ≤ v * p := by omega
  have J : ∀ u' : Int, 0 ≤ u' → u' ≤ u → ∃ p' k' c' d' v' u1 g q r, (spec_l04Drawn.j0 (n + 1) l b3 y3 p k c d v u' 0) = some (p', k', c', d', v', u1, g, q, r) ∧ D_dev p' k' c' d' ∧ D_vol p' v' u1 g ∧ v' ≤ 2000 ∧ p' ≤ 5000 := by
    intro u' h0 hu'
    rw [spec_l04Drawn.j0]
    rw [L_w (x := k + 1) (by omega)]
    obtain ⟨g, b4, y4, e4, hg0, hg, h9, h10⟩ := L_pick hl (a := b3) (by omega) y3 (k + 1)
    rw [e4]
    simp only [Option.bind_some]
    obtain ⟨o', b5, y5, e5, _, _⟩ := L_one hl (a := b4) (by omega) y4 2
    rw [e5]
    simp only [Option.bind_some]
    split
    · rw [Int.tdiv_eq_ediv_of_nonneg hg0, L_w (x := g / 4) (by omega)]
      refine ⟨_, _, _, _, _, _, _, _, _, rfl, hD, ?_, by omega, by omega⟩
      unfold D_vol; omega
    · refine ⟨_, _, _, _, _, _, _, _, _, rfl, hD, ?_, by omega, by omega⟩
      unfold D_vol; omega
  split
  · rw [Int.tdiv_eq_ediv_of_nonneg hu0, L_w (x := u / 4) (by omega)]
    obtain ⟨_, _, _, _, _, _, _, _, _, e, h⟩ := J (u / 4) (by omega) (by omega)
    rw [e]
    exact ⟨_, _, _, _, _, _, _, rfl, h⟩
  · obtain ⟨_, _, _, _, _, _, _, _, _, e, h⟩ := J u (by omega) (by omega)
    rw [e]
    exact ⟨_, _, _, _, _, _, _, rfl, h⟩

theorem L_a2At {l : List Int} (hl : ∀ x ∈ l, 0 ≤ x ∧ x ≤ 255) {i n : Int} (hi : 0 ≤ i) (hn : 1 ≤ n) : ∃ x, laws_a2At.f l i n = some x ∧ 0 ≤ x ∧ x < n := by
  unfold laws_a2At.f
  by_cases h : i ≥ (l.length : Int)
  · rw [if_pos h]
    exact ⟨0, rfl, by omega, by omega⟩
  · have hb := L_rdByte hl i
    rw [if_neg h, if_neg (show ¬ n < 1 by omega), if_pos hi, if_pos (show i < (l.length : Int) by omega), if_neg (show ¬ n = 0 by omega), L_w (x := rd l i) (by omega), Int.tmod_eq_emod_of_nonneg hb.1]
    exact ⟨_, rfl, Int.emod_nonneg _ (by omega), Int.emod_lt_of_pos _ (by omega)⟩

theorem L_sheetsLoops {p k c d v g t : Int} (hc : -128 ≤ c ∧ c ≤ 127) (hd : -128 ≤ d ∧ d ≤ 127) (hD : D_dev p k c d) (ht : 0 ≤ t ∧ t ≤ 36) (l : List Int) (hl : ∀ x ∈ l, 1 ≤ x ∧ x ≤ 5000) (hn : l.length ≤ 1048576) (e : Nat) :
    ∀ (n n' : Nat) (u i : Int), D_vol p v u g → 0 ≤ i → i + e = l.length → e + 40 ≤ n → e + 40 ≤ n' →
    spec_SheetsFrom.l0 n l t i p k c d v u g = some (i + D_sheets p k v g t (l.drop i.toNat) u, 0) ∧ impl_SheetsFrom.l0 n' t i l (l.length : Int) i p k c d v u g = some (i + D_sheets p k v g t (l.drop i.toNat) u, 0) := by
  induction e with
  | zero =>
    intro n n' u i hV h0 hi hn hn'
    obtain ⟨n, rfl⟩ : ∃ m, n = m + 1 := ⟨n - 1, by omega⟩
    obtain ⟨n', rfl⟩ : ∃ m, n' = m + 1 := ⟨n' - 1, by omega⟩
    simp only [spec_SheetsFrom.l0, impl_SheetsFrom.l0]
    rw [if_neg (by omega), if_neg (by omega), List.drop_eq_nil_of_le (by omega)]
    simp only [D_sheets]
    exact ⟨by congr 2; omega, by congr 2; omega⟩
  | succ e ih =>
    intro n n' u i hV h0 hi hn hn'
    obtain ⟨n, rfl⟩ : ∃ m, n = m + 1 := ⟨n - 1, by omega⟩
    obtain ⟨n', rfl⟩ : ∃ m, n' = m + 1 := ⟨n' - 1, by omega⟩
    obtain ⟨hi2, e0⟩ := L_rdGet (l := l) (i := i) h0 (by omega)
    have ha := hl _ (List.getElem_mem hi2)
    rw [← e0] at ha
    obtain ⟨x, y, z, e1, e2⟩ := L_specReady hc hd hD hV ha ht (n := n) (by omega)
    have e3 := L_implCan hD hV ha ht
    have hv := hV
    unfold D_vol at hv
    simp only [spec_SheetsFrom.l0, impl_SheetsFrom.l0]
    rw [if_pos (by omega), if_pos h0, if_pos (by omega), if_pos h0, if_pos (by omega), e1, e3, List.drop_eq_getElem_cons hi2, ← e0]
    simp only [Option.bind_some, decide_eq_true_eq, D_sheets]
    by_cases h : D_can p k v u g (rd l i) t
    · obtain ⟨rfl, rfl, rfl⟩ := e2 h
      obtain ⟨a1, a2⟩ := ih n n' (u + rd l i) (i + 1) h.2 (by omega) (by omega) (by omega) (by omega)
      rw [if_pos h, if_pos h, if_pos h, L_w (x := i + 1) (by omega), L_w (x := u + rd l i) (by omega), a1, a2, show (i + 1).toNat = i.toNat + 1 by omega]
      exact ⟨by congr 2; omega, by congr 2; omega⟩
    · rw [if_neg h, if_neg h, if_neg h]
      exact ⟨by congr 2; omega, by congr 2; omega⟩

theorem L_sheetsFrom {p k c d v u g t : Int} (hc : -128 ≤ c ∧ c ≤ 127) (hd : -128 ≤ d ∧ d ≤ 127) (l : List Int) (hn : l.length ≤ 1048576) {n : Nat} (hk : l.length + 60 ≤ n) :
    ∃ r, spec_SheetsFrom.f n p k c d v u g l t = some r ∧ impl_SheetsFrom.f n p k c d v u g l t = some r ∧ (D_dev p k c d → D_vol p v u g → (l.length : Int) ≤ 60 → D_areas l t → r = (D_sheets p k v g t l u, 0)) := by
  unfold spec_SheetsFrom.f impl_SheetsFrom.f
  rw [L_specAreas hc hd l hn (by omega), L_implAreas hc hd l]
  simp only [Option.bind_some]
  by_cases h : D_dev p k c d ∧ D_vol p v u g
  · rw [if_pos h]
    by_cases h1 : (l.length : Int) > 60
    · rw [if_pos h1]; exact ⟨_, rfl, rfl, fun _ _ x => by omega⟩
    · rw [if_neg h1]
      by_cases h2 : D_areas l t
      · rw [if_pos h2]
        obtain ⟨a1, a2⟩ := L_sheetsLoops hc hd h.1 h2.2 l h2.1 hn l.length n n u 0 h.2 (by omega) (by omega) (by omega) (by omega)
        simp only [if_true]
        rw [a1, a2]
        exact ⟨_, rfl, rfl, fun _ _ _ _ => by simp⟩
      · rw [if_neg h2]; exact ⟨_, rfl, rfl, fun _ _ _ x => absurd x h2⟩
  · rw [if_neg h]; exact ⟨_, rfl, rfl, fun x y => absurd ⟨x, y⟩ h⟩

theorem L_a2SameRun (R : List Int) (hR : R.length ≤ 1000000) (e : Nat) : ∀ (k : Nat) (i : Int), 0 ≤ i → i + e = R.length → e < k → spec_A2Same.l0 k R R i = some true := by
  induction e with
  | zero =>
    intro k i h0 h1 hk
    obtain ⟨k, rfl⟩ : ∃ q, k = q + 1 := ⟨k - 1, by omega⟩
    simp only [spec_A2Same.l0]
    rw [if_neg (by omega)]
  | succ e ih =>
    intro k i h0 h1 hk
    obtain ⟨k, rfl⟩ : ∃ q, k = q + 1 := ⟨k - 1, by omega⟩
    simp only [spec_A2Same.l0]
    rw [if_pos (by omega), if_pos h0, if_pos (by omega), if_pos trivial, L_w (x := i + 1) (by omega)]
    exact ih k (i + 1) (by omega) (by omega) (by omega)

theorem L_a2Same (R : List Int) (hR : R.length ≤ 1000000) {n : Nat} (hn : R.length < n) : spec_A2Same.f n R R = some true := by
  unfold spec_A2Same.f
  rw [if_pos rfl]
  exact L_a2SameRun R hR R.length n 0 (by omega) (by omega) (by omega)

theorem L_sumLe (R : List Int) (v : Int) (h : ∀ x ∈ R, 0 ≤ x ∧ x ≤ v) : R.sum ≤ R.length * v := by
  induction R with
  | nil => simp
  | cons a r ih =>
    have h1 := h a List.mem_cons_self
    have h2 := ih (fun x hx => h x (List.mem_cons_of_mem _ hx))
    rw [List.sum_cons, List.length_cons, show (((r.length + 1 : Nat)) : Int) * v = r.length * v + v by rw [Int.natCast_add, Int.add_mul]; simp]
    omega

theorem L_sumNonneg (R : List Int) (h : ∀ x ∈ R, 0 ≤ x) : 0 ≤ R.sum := by
  induction R with
  | nil => simp
  | cons a r ih =>
    have h1 := h a List.mem_cons_self
    have h2 := ih (fun x hx => h x (List.mem_cons_of_mem _ hx))
    rw [List.sum_cons]
    omega


theorem L_lrepLen (p k c d t : Int) : ∀ (l o : List Int) (sm v u g : Int), (D_lrep p k c d t l o sm v u g).1.length ≤ o.length + l.length
  | [], o, sm, v, u, g => by simp [D_lrep]
  | a :: r, o, sm, v, u, g => by
    unfold D_lrep
    split
    · have := L_lrepLen p k c d t r (o ++ [D_leastM p k v u g a t (v.toNat + 1) 0]) (wrap64 (sm + D_leastM p k v u g a t (v.toNat + 1) 0)) (D_fill v u g (D_leastM p k v u g a t (v.toNat + 1) 0)).1 ((D_fill v u g (D_leastM p k v u g a t (v.toNat + 1) 0)).2.1 + a) (D_fill v u g (D_leastM p k v u g a t (v.toNat + 1) 0)).2.2
      simp at this ⊢; omega
    · simp

-- L_areasDrawn L_lrepTail L_lrepCode L_lrStep L_lrKnown L_leastRepl L_lrRound L_repFirst L_repLeft L_bathDrawn L_a2At L_sheetsFrom L_sheetsRange L_a2Same L_sumLe L_sumNonneg L_rdGet L_lrepLen
end Go.Proofs.Ytldhgldknefjdaa.PL
