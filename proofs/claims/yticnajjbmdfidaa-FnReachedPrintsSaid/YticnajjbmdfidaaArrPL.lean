-- Plain lemmas on steps, times and curves, for the texts on arrays.
import Derived.Test.YticnajjbmdfidaaQx3
import Derived.Test.YticnajjbmdfidaaQx7
import Derived.Test.YticnajjbmdfidaaQx9
import Derived.Test.YticnajjbmdfidaaArrKit
namespace Go.Proofs.Yticnajjbmdfidaa.PL
open Go.RowKit Go.Proofs.Yticnajjbmdfidaa.Q Go.Proofs.YticnajjbmdfidaaW.PrintWords Go.Proofs.YticnajjbmdfidaaW.PrintLast Go.Proofs.YticnajjbmdfidaaW.PrintMore
set_option linter.unusedVariables false
set_option linter.unusedSimpArgs false
def D_i8s (l : List S76) : Prop := ∀ x ∈ l, -128 ≤ x.f1 ∧ x.f1 ≤ 127

def D_steps (l : List S76) : Prop := (∀ x ∈ l, 0 ≤ x.f1 ∧ x.f1 ≤ 36) ∧ l.length ≤ 30
instance (l : List S76) : Decidable (D_steps l) := by unfold D_steps; infer_instance

theorem L_sd {p q : Prop} [Decidable p] [Decidable q] (h : p ↔ q) : some (decide p) = some (decide q) := by rw [decide_eq_decide.mpr h]

theorem L_rdS {l : List S76} {i : Int} (h0 : 0 ≤ i) (h : i < l.length) : ∃ hi : i.toNat < l.length, rd_T76 l i = l[i.toNat]'hi :=
  ⟨by omega, by unfold rd_T76; rw [List.getD_eq_getElem?_getD, List.getElem?_eq_getElem (by omega)]; rfl⟩

theorem L_sf {q : Prop} [Decidable q] (h : ¬ q) : some false = some (decide q) := by rw [decide_eq_false h]

theorem L_in (a b c : Int) : spec_l00In.f a b c = some (decide (b ≤ a ∧ a ≤ c)) := by
  unfold spec_l00In.f
  split
  · exact L_sd (by omega)
  · exact L_sf (by omega)

theorem L_specThirds (a : Int) : spec_l03Thirds.f a = some (decide (0 ≤ a ∧ a ≤ 36)) := by
  unfold spec_l03Thirds.f; rw [L_in]; rfl

theorem L_w {x : Int} (h : -9223372036854775808 ≤ x ∧ x ≤ 9223372036854775807) : wrap64 x = x := by unfold wrap64; omega

theorem L_stepsOkLoop (l : List S76) (h8 : D_i8s l) (hn : l.length ≤ 140737488351232) (d : Nat) : ∀ (k : Nat) (i : Int), 0 ≤ i → i + d = l.length → d < k →
    spec_l03Ok.l0 k l i = some (decide ((∀ x ∈ l.drop i.toNat, 0 ≤ x.f1 ∧ x.f1 ≤ 36) ∧ l.length ≤ 30)) := by
  induction d with
  | zero =>
    intro k i h0 hd hk
    obtain ⟨k, rfl⟩ : ∃ m, k = m + 1 := ⟨k - 1, by omega⟩
    simp only [spec_l03Ok.l0]
    rw [if_neg (by omega), List.drop_eq_nil_of_le (by omega)]
    exact L_sd (by simp; omega)
  | succ d ih =>
    intro k i h0 hd hk
    obtain ⟨k, rfl⟩ : ∃ m, k = m + 1 := ⟨k - 1, by omega⟩
    obtain ⟨hi, e⟩ := L_rdS (l := l) (i := i) h0 (by omega)
    have h1 := h8 _ (List.getElem_mem hi)
    rw [← e] at h1
    simp only [spec_l03Ok.l0, L_specThirds, Option.bind_some, decide_eq_true_eq]
    rw [if_pos (by omega), if_pos h0, L_w (x := i + 1) (by omega), L_w (x := (rd_T76 l i).f1) (by omega), List.drop_eq_getElem_cons hi, ← e]
    split
    · rename_i hx
      rw [ih k (i + 1) (by omega) (by omega) (by omega), show (i + 1).toNat = i.toNat + 1 by omega]
      exact L_sd (by simp [hx])
    · rename_i hx
      exact L_sf (fun h => hx (h.1 _ (by simp)))

theorem L_stepsOk (l : List S76) (h8 : D_i8s l) (hn : l.length ≤ 140737488351232) {k : Nat} (hk : l.length < k) : spec_l03Ok.f k l = some (decide (D_steps l)) := by
  unfold spec_l03Ok.f
  rw [L_stepsOkLoop l h8 hn l.length k 0 (by omega) (by omega) hk]
  exact L_sd (by unfold D_steps; simp)

theorem L_idxAnyOn {α : Type} (q : α → Option Bool) (p : α → Bool) : ∀ (l : List α) (i : Int), (∀ x ∈ l, q x = some (p x)) → 0 ≤ i → ∃ r, D_idx q l i = some r ∧ (l.any p = false → r = -1) ∧ (l.any p = true → 0 ≤ r)
  | [], i, _, hi => ⟨-1, rfl, fun _ => rfl, fun h => by simp at h⟩
  | x :: t, i, h, hi => by
    simp only [D_idx, h x (by simp), Option.bind_some]
    by_cases hx : p x = true
    · rw [if_pos hx]
      exact ⟨i, rfl, fun h => by simp [hx] at h, fun _ => hi⟩
    · rw [if_neg hx]
      obtain ⟨r, h1, h2, h3⟩ := L_idxAnyOn q p t (i + 1) (fun y hy => h y (by simp [hy])) (by omega)
      refine ⟨r, h1, fun h => h2 (by simpa [hx] using h), fun h => h3 (by simpa [hx] using h)⟩

theorem L_within (a b c : Int) : impl_within.f a b c = some (decide (b ≤ a ∧ a ≤ c)) := by
  unfold impl_within.f
  split
  · exact L_sd (by omega)
  · exact L_sf (by omega)

theorem L_areThirds (a : Int) : impl_areThirds.f a = some (decide (0 ≤ a ∧ a ≤ 36)) := by
  unfold impl_areThirds.f; rw [L_within]; rfl

theorem L_anyIff {α : Type} (P : α → Prop) [DecidablePred P] (l : List α) (r : Int) (h2 : l.any (fun x => !decide (P x)) = false → r = -1) (h3 : l.any (fun x => !decide (P x)) = true → 0 ≤ r) [Decidable (∀ x ∈ l, P x)] :
    decide (0 ≤ r) = !decide (∀ x ∈ l, P x) := by
  by_cases h : ∀ x ∈ l, P x
  · have e : l.any (fun x => !decide (P x)) = false := by rw [List.any_eq_false]; intro x hx; simp [h x hx]
    rw [h2 e, decide_eq_true h]
    rfl
  · have e : l.any (fun x => !decide (P x)) = true := by
      rw [List.any_eq_true]
      obtain ⟨x, hx⟩ := Classical.not_forall.1 h
      obtain ⟨hx, hh⟩ := Classical.not_imp.1 hx
      exact ⟨x, hx, by simp only [Bool.not_eq_true', decide_eq_false_iff_not]; exact hh⟩
    rw [decide_eq_false h, decide_eq_true (h3 e)]
    rfl


theorem L_implSteps (l : List S76) (h8 : D_i8s l) : impl_ValidSteps.f l = some (decide (D_steps l)) := by
  unfold impl_ValidSteps.f impl_Step_95.f impl_Step_61.f
  rw [if_pos rfl]
  obtain ⟨r, h1, h2, h3⟩ := L_idxAnyOn (fun x : S76 => impl_ValidSteps_1.f x.f0 x.f1) (fun x => !decide (0 ≤ x.f1 ∧ x.f1 ≤ 36)) l 0 (fun x hx => by
    have := h8 x hx
    unfold impl_ValidSteps_1.f
    rw [L_w (x := x.f1) (by omega), L_areThirds]; rfl) (by omega)
  rw [h1]
  simp only [Option.bind_some]
  rw [L_anyIff (fun x : S76 => 0 ≤ x.f1 ∧ x.f1 ≤ 36) l r h2 h3]
  unfold D_steps
  by_cases hl : l.length ≤ 30
  · first
    | rw [if_pos (by omega)]
      simp only [Bool.not_not]
      exact L_sd ⟨fun h => ⟨h, hl⟩, fun h => h.1⟩
    | simp [hl]
  · first
    | rw [if_neg (by omega)]
      exact L_sf (fun h => hl h.2)
    | simp [hl]

def D_inFrom (s : Int) : Nat → Int → Int
  | 0, i => i
  | d + 1, i => if tmv (i + 1) ≤ s then D_inFrom s d (i + 1) else i

def D_in (s : Int) : Int := D_inFrom s 37 (-1)

theorem L_specTimeAll : ∀ n : Nat, n < 37 → spec_l01Time.f n = some (tmv n) := by decide +kernel

theorem L_specTime {k : Int} (h : 0 ≤ k ∧ k ≤ 36) : spec_l01Time.f k = some (tmv k) := by
  obtain ⟨n, rfl⟩ : ∃ n : Nat, k = n := ⟨k.toNat, by omega⟩
  exact L_specTimeAll n (by omega)

theorem L_specInFrom (s : Int) (d : Nat) : ∀ (k : Nat) (i : Int), -1 ≤ i → i + d = 36 → d < k → spec_l01In.l0 k s i = some (D_inFrom s d i) := by
  induction d with
  | zero =>
    intro k i h0 hd hk
    obtain ⟨k, rfl⟩ : ∃ m, k = m + 1 := ⟨k - 1, by omega⟩
    simp only [spec_l01In.l0, D_inFrom]; rw [if_neg (by omega)]
  | succ d ih =>
    intro k i h0 hd hk
    obtain ⟨k, rfl⟩ : ∃ m, k = m + 1 := ⟨k - 1, by omega⟩
    simp only [spec_l01In.l0, D_inFrom]
    rw [if_pos (by omega), L_w (x := i + 1) (by omega), L_specTime (by omega)]
    simp only [Option.bind_some]
    by_cases h : tmv (i + 1) ≤ s
    · rw [if_pos h, if_pos h]; exact ih k (i + 1) (by omega) (by omega) (by omega)
    · rw [if_neg h, if_neg h]

theorem L_specIn (s : Int) {k : Nat} (hk : 38 ≤ k) : spec_l01In.f k s = some (D_in s) :=
  L_specInFrom s 37 k (-1) (by omega) (by omega) (by omega)

theorem L_inFrom (s : Int) (d : Nat) : ∀ i : Int, -1 ≤ i → i + d = 36 → (0 ≤ i → tmv i ≤ s) → i ≤ D_inFrom s d i ∧ D_inFrom s d i ≤ 36 ∧ (0 ≤ D_inFrom s d i → tmv (D_inFrom s d i) ≤ s) ∧ (D_inFrom s d i < 36 → s < tmv (D_inFrom s d i + 1)) := by
  induction d with
  | zero => intro i h0 hd h; unfold D_inFrom; exact ⟨by omega, by omega, h, fun h => by omega⟩
  | succ d ih =>
    intro i h0 hd h
    unfold D_inFrom
    split
    · rename_i hle
      obtain ⟨h1, h2, h3, h4⟩ := ih (i + 1) (by omega) (by omega) (fun _ => hle)
      exact ⟨by omega, h2, h3, h4⟩
    · rename_i hgt
      exact ⟨by omega, by omega, h, fun _ => by omega⟩

theorem L_inSpec (s : Int) : -1 ≤ D_in s ∧ D_in s ≤ 36 ∧ (0 ≤ D_in s → tmv (D_in s) ≤ s) ∧ (D_in s < 36 → s < tmv (D_in s + 1)) :=
  L_inFrom s 37 (-1) (by omega) (by omega) (fun h => by omega)

theorem L_tmvMonoAll : ∀ i : Nat, i < 37 → ∀ j : Nat, j < 37 → i ≤ j → tmv i ≤ tmv j := by decide +kernel

theorem L_tmvMono {i j : Int} (h0 : 0 ≤ i) (h : i ≤ j) (h1 : j ≤ 36) : tmv i ≤ tmv j := by
  obtain ⟨n, rfl⟩ : ∃ n : Nat, i = n := ⟨i.toNat, by omega⟩
  obtain ⟨m, rfl⟩ : ∃ m : Nat, j = m := ⟨j.toNat, by omega⟩
  exact L_tmvMonoAll n (by omega) m (by omega) (by omega)

theorem L_inUnique {s k : Int} (h0 : -1 ≤ k ∧ k ≤ 36) (h1 : 0 ≤ k → tmv k ≤ s) (h2 : k < 36 → s < tmv (k + 1)) : k = D_in s := by
  obtain ⟨a, b, c, d⟩ := L_inSpec s
  rcases Int.lt_trichotomy k (D_in s) with h | h | h
  · have e := L_tmvMono (i := k + 1) (j := D_in s) (by omega) (by omega) b
    have := h2 (by omega)
    have := c (by omega)
    omega
  · exact h
  · have e := L_tmvMono (i := D_in s + 1) (j := k) (by omega) (by omega) h0.2
    have := d (by omega)
    have := h1 (by omega)
    omega

theorem L_tmvLtAll : ∀ i : Nat, i < 36 → tmv i < tmv ((i + 1 : Nat) : Int) := by decide +kernel

theorem L_tmvLt {i j : Int} (h0 : 0 ≤ i) (h : i < j) (h1 : j ≤ 36) : tmv i < tmv j := by
  obtain ⟨n, rfl⟩ : ∃ n : Nat, i = n := ⟨i.toNat, by omega⟩
  have a := L_tmvLtAll n (by omega)
  have b := L_tmvMono (i := ((n + 1 : Nat) : Int)) (j := j) (by omega) (by omega) h1
  omega

theorem L_timeOf {k : Int} (h : 0 ≤ k ∧ k ≤ 36) : impl_timeOf.f k = some (tmv k) := by
  unfold impl_timeOf.f; rw [if_pos h.1, if_pos h.2]

theorem L_w8 {x : Int} (h : -128 ≤ x ∧ x ≤ 127) : IntKind.i8.wrap x = x := by simp [IntKind.wrap, IntKind.bits, IntKind.signed]; omega

theorem L_wu {x : Int} (h : 0 ≤ x ∧ x ≤ 18446744073709551615) : IntKind.u64.wrap x = x := by simp [IntKind.wrap, IntKind.bits, IntKind.signed]; omega

theorem L_w16 {x : Int} (h : -32768 ≤ x ∧ x ≤ 32767) : IntKind.i16.wrap x = x := by simp [IntKind.wrap, IntKind.bits, IntKind.signed]; omega

theorem L_rdNe {l : List S76} {i j : Int} (hi : 0 ≤ i) (hj : 0 ≤ j) (h : i ≠ j) (x : S76) : rd_T76 (l.set i.toNat x) j = rd_T76 l j := by
  unfold rd_T76
  rw [List.getD_eq_getElem?_getD, List.getD_eq_getElem?_getD, List.getElem?_set_ne (by omega)]

theorem L_rdSet {l : List S76} {i : Int} (hi : 0 ≤ i) (h : i < l.length) (x : S76) : rd_T76 (l.set i.toNat x) i = x := by
  unfold rd_T76
  rw [List.getD_eq_getElem?_getD, List.getElem?_set_self (by omega)]; rfl

def D_px (l : List S91) (i : Int) : Int := (rd_T91 l i).f0

def D_py (l : List S91) (i : Int) : Int := (rd_T91 l i).f1

def D_shapeFrom (l : List S91) : Nat → Int → Bool
  | 0, _ => decide ((l.length : Int) > 0)
  | d + 1, i => if (-200 ≤ D_px l i ∧ D_px l i ≤ 200) ∧ 0 ≤ D_py l i ∧ D_py l i ≤ 400 then (if i > 0 then (if D_px l i ≤ D_px l (i - 1) then false else (if D_py l i < D_py l (i - 1) then false else D_shapeFrom l d (i + 1))) else D_shapeFrom l d (i + 1)) else false

def D_shape (l : List S91) : Bool := D_shapeFrom l l.length 0

def D_curve (l : List S91) : Bool := D_shape l && decide ((l.length : Int) ≤ 12)

def D_interp (l : List S91) (x i : Int) : Int := D_py l i + (D_py l (i + 1) - D_py l i) * (x - D_px l i) / (D_px l (i + 1) - D_px l i)

def D_atFrom (l : List S91) (x : Int) : Nat → Int → Int
  | 0, _ => 0
  | d + 1, i => if D_px l i ≤ x then D_atFrom l x d (i + 1) else D_interp l x (i - 1)

def D_at (l : List S91) (x : Int) : Int :=
  if x ≤ D_px l 0 then D_py l 0 else (if x ≥ D_px l ((l.length : Int) - 1) then D_py l ((l.length : Int) - 1) else D_atFrom l x (l.length - 1) 1)

theorem L_shapeFacts (l : List S91) (d : Nat) : ∀ i : Int, 0 ≤ i → i + d = l.length → D_shapeFrom l d i = true →
    0 < l.length ∧ ∀ j : Int, i ≤ j → j < l.length → ((-200 ≤ D_px l j ∧ D_px l j ≤ 200) ∧ 0 ≤ D_py l j ∧ D_py l j ≤ 400) ∧ (j > 0 → D_px l (j - 1) < D_px l j ∧ D_py l (j - 1) ≤ D_py l j) := by
  induction d with
  | zero =>
    intro i h0 hd h
    simp only [D_shapeFrom, decide_eq_true_eq] at h
    exact ⟨by omega, fun j h1 h2 => by omega⟩
  | succ d ih =>
    intro i h0 hd h
    simp only [D_shapeFrom] at h
    by_cases h1 : (-200 ≤ D_px l i ∧ D_px l i ≤ 200) ∧ 0 ≤ D_py l i ∧ D_py l i ≤ 400
    · rw [if_pos h1] at h
      have key : D_shapeFrom l d (i + 1) = true ∧ (i > 0 → D_px l (i - 1) < D_px l i ∧ D_py l (i - 1) ≤ D_py l i) := by
        by_cases h2 : i > 0
        · rw [if_pos h2] at h
          by_cases h3 : D_px l i ≤ D_px l (i - 1)
          · rw [if_pos h3] at h; cases h
          · rw [if_neg h3] at h
            by_cases h4 : D_py l i < D_py l (i - 1)
            · rw [if_pos h4] at h; cases h
            · rw [if_neg h4] at h
              exact ⟨h, fun _ => by omega⟩
        · rw [if_neg h2] at h
          exact ⟨h, fun h => absurd h h2⟩
      obtain ⟨a, b⟩ := ih (i + 1) (by omega) (by omega) key.1
      refine ⟨a, fun j hj hj2 => ?_⟩
      by_cases e : j = i
      · subst e; exact ⟨h1, key.2⟩
      · exact b j (by omega) hj2
    · rw [if_neg h1] at h; cases h

theorem L_curveFacts {l : List S91} (h : D_curve l = true) : (1 ≤ l.length ∧ l.length ≤ 12) ∧ ∀ j : Int, 0 ≤ j → j < l.length → ((-200 ≤ D_px l j ∧ D_px l j ≤ 200) ∧ 0 ≤ D_py l j ∧ D_py l j ≤ 400) ∧ (j > 0 → D_px l (j - 1) < D_px l j ∧ D_py l (j - 1) ≤ D_py l j) := by
  unfold D_curve D_shape at h
  simp only [Bool.and_eq_true, decide_eq_true_eq] at h
  obtain ⟨a, b⟩ := L_shapeFacts l l.length 0 (by omega) (by omega) h.1
  exact ⟨by omega, b⟩

theorem L_pxF (l : List S91) (i : Int) : (rd_T91 l i).f0 = D_px l i := rfl

theorem L_pyF (l : List S91) (i : Int) : (rd_T91 l i).f1 = D_py l i := rfl

theorem L_mulb {x y X Y : Int} (h : 0 ≤ x) (hx : x ≤ X) (k : 0 ≤ y) (ky : y ≤ Y) : 0 ≤ x * y ∧ x * y ≤ X * Y :=
  ⟨Int.mul_nonneg h k, Int.mul_le_mul hx ky k (Int.le_trans h hx)⟩

theorem L_quot {a b q : Int} (ha : 0 ≤ a) (hb : 0 < b) (h : a ≤ q * b) : 0 ≤ a / b ∧ a / b ≤ q := by
  refine ⟨Int.ediv_nonneg ha (by omega), ?_⟩
  have := Int.ediv_le_ediv hb h
  rwa [Int.mul_ediv_cancel _ (by omega)] at this

theorem L_interpb {y0 y1 x0 x1 x : Int} (hy0 : 0 ≤ y0) (hy : y0 ≤ y1) (hy1 : y1 ≤ 400) (hx : x0 < x1) (h0 : x0 ≤ x) (h1 : x ≤ x1) (hb : -200 ≤ x0 ∧ x1 ≤ 200) :
    (0 ≤ (y1 - y0) * (x - x0) ∧ (y1 - y0) * (x - x0) ≤ 160000) ∧ 0 ≤ (y1 - y0) * (x - x0) / (x1 - x0) ∧ (y1 - y0) * (x - x0) / (x1 - x0) ≤ y1 - y0 := by
  have m1 := L_mulb (x := y1 - y0) (y := x - x0) (X := 400) (Y := 400) (by omega) (by omega) (by omega) (by omega)
  have m2 := L_mulb (x := y1 - y0) (y := x - x0) (X := y1 - y0) (Y := x1 - x0) (by omega) (by omega) (by omega) (by omega)
  exact ⟨by omega, L_quot m1.1 (by omega) m2.2⟩

theorem L_atLoops {l : List S91} (h : D_curve l = true) {x : Int} (hx : x < D_px l ((l.length : Int) - 1)) (d : Nat) : ∀ (k : Nat) (i : Int), 1 ≤ i → i + d = l.length → d < k → D_px l (i - 1) ≤ x →
    (spec_l02At.l0 k l x (i - 1) = some (D_atFrom l x d i) ∧ impl_Curve_at.l0 k l x i = some (D_atFrom l x d i)) ∧ 0 ≤ D_atFrom l x d i ∧ D_atFrom l x d i ≤ 400 ∧
      ∃ j, i - 1 ≤ j ∧ j + 1 < l.length ∧ D_px l j ≤ x ∧ x < D_px l (j + 1) ∧ D_atFrom l x d i = D_interp l x j := by
  obtain ⟨hl, hf⟩ := L_curveFacts h
  induction d with
  | zero =>
    intro k i h1 hd hk hp
    have : i - 1 = (l.length : Int) - 1 := by omega
    rw [this] at hp
    omega
  | succ d ih =>
    intro k i h1 hd hk hp
    obtain ⟨k, rfl⟩ : ∃ m, k = m + 1 := ⟨k - 1, by omega⟩
    have f0 := hf (i - 1) (by omega) (by omega)
    have f1 := hf i (by omega) (by omega)
    have f2 := f1.2 (by omega)
    have w1 : wrap64 (i - 1 + 1) = i := by rw [L_w (by omega)]; omega
    have w2 : wrap64 (i - 1) = i - 1 := L_w (by omega)
    have w3 : wrap64 (i + 1) = i + 1 := L_w (by omega)
    have wx1 : wrap64 (D_px l i) = D_px l i := L_w (by omega)
    have wy1 : wrap64 (D_py l i) = D_py l i := L_w (by omega)
    have wx0 : wrap64 (D_px l (i - 1)) = D_px l (i - 1) := L_w (by omega)
    have wy0 : wrap64 (D_py l (i - 1)) = D_py l (i - 1) := L_w (by omega)
    simp only [spec_l02At.l0, impl_Curve_at.l0, D_atFrom, L_pxF, L_pyF, w1, w2, w3, wx1, wy1, wx0, wy0]
    have c1 : 0 ≤ i := by omega
    have c2 : i < (l.length : Int) := by omega
    have c3 : 0 ≤ i - 1 := by omega
    have c4 : i - 1 < (l.length : Int) := by omega
    simp only [if_pos c1, if_pos c2, if_pos c3, if_pos c4]
    by_cases hc : D_px l i ≤ x
    · have e : i + 1 - 1 = i := by omega
      obtain ⟨⟨a1, a2⟩, a3, a4, j, b1, b2, b3, b4, b5⟩ := ih k (i + 1) (by omega) (by omega) (by omega) (by rw [e]; exact hc)
      rw [e] at a1
      simp only [if_pos hc]
      exact ⟨⟨a1, a2⟩, a3, a4, j, by omega, b2, b3, b4, b5⟩
    · have hb := L_interpb (y0 := D_py l (i - 1)) (y1 := D_py l i) (x0 := D_px l (i - 1)) (x1 := D_px l i) (x := x) (by omega) (by omega) (by omega) (by omega) hp (by omega) (by omega)
      have e : i - 1 + 1 = i := by omega
      have v1 : IntKind.i16.wrap (D_px l i - D_px l (i - 1)) = D_px l i - D_px l (i - 1) := L_w16 (by omega)
      have v2 : IntKind.i16.wrap (D_py l i - D_py l (i - 1)) = D_py l i - D_py l (i - 1) := L_w16 (by omega)
      have u1 : wrap64 (D_px l i - D_px l (i - 1)) = D_px l i - D_px l (i - 1) := L_w (by omega)
      have u2 : wrap64 (D_py l i - D_py l (i - 1)) = D_py l i - D_py l (i - 1) := L_w (by omega)
      have u3 : wrap64 (x - D_px l (i - 1)) = x - D_px l (i - 1) := L_w (by omega)
      have u4 : wrap64 ((D_py l i - D_py l (i - 1)) * (x - D_px l (i - 1))) = (D_py l i - D_py l (i - 1)) * (x - D_px l (i - 1)) := L_w (by omega)
      have u5 : ((D_py l i - D_py l (i - 1)) * (x - D_px l (i - 1))).tdiv (D_px l i - D_px l (i - 1)) = (D_py l i - D_py l (i - 1)) * (x - D_px l (i - 1)) / (D_px l i - D_px l (i - 1)) := Int.tdiv_eq_ediv_of_nonneg hb.1.1
      have u6 : wrap64 ((D_py l i - D_py l (i - 1)) * (x - D_px l (i - 1)) / (D_px l i - D_px l (i - 1))) = (D_py l i - D_py l (i - 1)) * (x - D_px l (i - 1)) / (D_px l i - D_px l (i - 1)) := L_w (by omega)
      have u7 : wrap64 (D_py l (i - 1) + (D_py l i - D_py l (i - 1)) * (x - D_px l (i - 1)) / (D_px l i - D_px l (i - 1))) = D_py l (i - 1) + (D_py l i - D_py l (i - 1)) * (x - D_px l (i - 1)) / (D_px l i - D_px l (i - 1)) := L_w (by omega)
      have c5 : ¬ (D_px l i - D_px l (i - 1) = 0) := by omega
      simp only [if_neg hc, v1, v2, u1, u2, u3, u4, u5, u6, u7, if_neg c5]
      unfold D_interp
      rw [e]
      exact ⟨⟨rfl, rfl⟩, by omega, by omega, i - 1, by omega, by omega, hp, by rw [e]; omega, by rw [e]⟩

theorem L_at {l : List S91} (h : D_curve l = true) {x : Int} {k : Nat} (hk : 13 ≤ k) : spec_l02At.f k l x = some (D_at l x) ∧ impl_Curve_at.f k l x = some (D_at l x) ∧ 0 ≤ D_at l x ∧ D_at l x ≤ 400 := by
  obtain ⟨hl, hf⟩ := L_curveFacts h
  have f0 := hf 0 (by omega) (by omega)
  have fn := hf ((l.length : Int) - 1) (by omega) (by omega)
  have w1 : wrap64 ((l.length : Int) - 1) = (l.length : Int) - 1 := L_w (by omega)
  have c1 : 0 < (l.length : Int) := by omega
  have c2 : 0 ≤ (l.length : Int) - 1 := by omega
  have c3 : (l.length : Int) - 1 < (l.length : Int) := by omega
  have wx0 : wrap64 (D_px l 0) = D_px l 0 := L_w (by omega)
  have wy0 : wrap64 (D_py l 0) = D_py l 0 := L_w (by omega)
  have wx1 : wrap64 (D_px l ((l.length : Int) - 1)) = D_px l ((l.length : Int) - 1) := L_w (by omega)
  have wy1 : wrap64 (D_py l ((l.length : Int) - 1)) = D_py l ((l.length : Int) - 1) := L_w (by omega)
  unfold spec_l02At.f impl_Curve_at.f D_at
  simp only [L_pxF, L_pyF, w1, wx0, wy0, wx1, wy1, if_pos c1, if_pos c2, if_pos c3]
  by_cases h1 : x ≤ D_px l 0
  · simp only [if_pos h1]; exact ⟨trivial, trivial, by omega, by omega⟩
  · by_cases h2 : x ≥ D_px l ((l.length : Int) - 1)
    · simp only [if_neg h1, if_pos h2]; exact ⟨trivial, trivial, by omega, by omega⟩
    · simp only [if_neg h1, if_neg h2]
      obtain ⟨⟨a1, a2⟩, a3, a4, _⟩ := L_atLoops h (x := x) (by omega) (l.length - 1) k 1 (by omega) (by omega) (by omega) (by rw [show (1 : Int) - 1 = 0 by omega]; omega)
      exact ⟨a1, a2, a3, a4⟩

def D_i16s (l : List S91) : Prop := ∀ x ∈ l, (-32768 ≤ x.f0 ∧ x.f0 ≤ 32767) ∧ -32768 ≤ x.f1 ∧ x.f1 ≤ 32767

theorem L_rdP {l : List S91} {i : Int} (h0 : 0 ≤ i) (h : i < l.length) : ∃ hi : i.toNat < l.length, rd_T91 l i = l[i.toNat]'hi :=
  ⟨by omega, by unfold rd_T91; rw [List.getD_eq_getElem?_getD, List.getElem?_eq_getElem (by omega)]; rfl⟩

theorem L_p16 {l : List S91} (h : D_i16s l) {i : Int} (h0 : 0 ≤ i) (h1 : i < l.length) : (-32768 ≤ D_px l i ∧ D_px l i ≤ 32767) ∧ -32768 ≤ D_py l i ∧ D_py l i ≤ 32767 := by
  obtain ⟨hi, e⟩ := L_rdP (l := l) (i := i) h0 h1
  unfold D_px D_py
  rw [e]
  exact h _ (List.getElem_mem hi)

theorem L_specDensity (a : Int) : spec_l02Density.f a = some (decide (0 ≤ a ∧ a ≤ 400)) := by unfold spec_l02Density.f; rw [L_in]; rfl

theorem L_specPoint {x y : Int} (hx : -32768 ≤ x ∧ x ≤ 32767) (hy : -32768 ≤ y ∧ y ≤ 32767) : spec_l02Point.f x y = some (decide ((-200 ≤ x ∧ x ≤ 200) ∧ 0 ≤ y ∧ y ≤ 400)) := by
  unfold spec_l02Point.f spec_l02Place.f
  rw [L_w (x := x) (by omega), L_w (x := y) (by omega), L_in, L_specDensity]
  simp only [Option.bind_some, decide_eq_true_eq]
  split
  · exact L_sd (by omega)
  · exact L_sf (by omega)

theorem L_specShapeLoop (l : List S91) (h16 : D_i16s l) (hn : l.length ≤ 140737488351232) (d : Nat) : ∀ (k : Nat) (i : Int), 0 ≤ i → i + d = l.length → d < k → spec_l02Shape.l0 k l i = some (D_shapeFrom l d i) := by
  induction d with
  | zero =>
    intro k i h0 hd hk
    obtain ⟨k, rfl⟩ : ∃ m, k = m + 1 := ⟨k - 1, by omega⟩
    simp only [spec_l02Shape.l0, D_shapeFrom]; rw [if_neg (by omega)]
  | succ d ih =>
    intro k i h0 hd hk
    obtain ⟨k, rfl⟩ : ∃ m, k = m + 1 := ⟨k - 1, by omega⟩
    have hp := L_p16 h16 h0 (show i < l.length by omega)
    have ih' := ih k (i + 1) (by omega) (by omega) (by omega)
    simp only [spec_l02Shape.l0, D_shapeFrom]
    rw [if_pos (by omega), if_pos h0, L_w (x := i + 1) (by omega), L_w (x := i - 1) (by omega)]
    change (spec_l02Point.f (D_px l i) (D_py l i)).bind _ = _
    rw [L_specPoint hp.1 hp.2]
    simp only [Option.bind_some, decide_eq_true_eq]
    by_cases h1 : (-200 ≤ D_px l i ∧ D_px l i ≤ 200) ∧ 0 ≤ D_py l i ∧ D_py l i ≤ 400
    · rw [if_pos h1, if_pos h1]
      by_cases h2 : i > 0
      · rw [if_pos h2, if_pos h2, if_pos (by omega), if_pos (by omega)]
        change (if D_px l i ≤ D_px l (i - 1) then _ else (if D_py l i < D_py l (i - 1) then _ else _)) = _
        by_cases h3 : D_px l i ≤ D_px l (i - 1)
        · rw [if_pos h3, if_pos h3]
        · rw [if_neg h3, if_neg h3]
          by_cases h4 : D_py l i < D_py l (i - 1)
          · rw [if_pos h4, if_pos h4]
          · rw [if_neg h4, if_neg h4, ih']
      · rw [if_neg h2, if_neg h2, ih']
    · rw [if_neg h1, if_neg h1]

theorem L_specCurve (l : List S91) (h16 : D_i16s l) (hn : l.length ≤ 140737488351232) {k : Nat} (hk : l.length < k) : spec_l02Ok.f k l = some (D_curve l) := by
  unfold spec_l02Ok.f spec_l02Shape.f D_curve
  rw [L_specShapeLoop l h16 hn l.length k 0 (by omega) (by omega) hk]
  simp only [Option.bind_some]
  show _ = some (D_shape l && _)
  unfold D_shape
  split
  · rename_i h; rw [h]; rfl
  · rename_i h; rw [Bool.eq_false_iff.mpr h]; rfl

theorem L_isPlace (x : Int) : impl_isPlace.f x = some (decide (-200 ≤ x ∧ x ≤ 200)) := by unfold impl_isPlace.f; rw [L_within]; rfl

theorem L_isDensity (a : Int) : impl_isDensity.f a = some (decide (0 ≤ a ∧ a ≤ 400)) := by unfold impl_isDensity.f; rw [L_within]; rfl

theorem L_implPoint {x y : Int} (hx : -32768 ≤ x ∧ x ≤ 32767) (hy : -32768 ≤ y ∧ y ≤ 32767) : impl_isPoint.f x y = some (decide ((-200 ≤ x ∧ x ≤ 200) ∧ 0 ≤ y ∧ y ≤ 400)) := by
  unfold impl_isPoint.f
  rw [L_w (x := x) (by omega), L_w (x := y) (by omega), L_isPlace, L_isDensity]
  simp only [Option.bind_some, decide_eq_true_eq]
  split
  · exact L_sd (by omega)
  · exact L_sf (by omega)

theorem L_implShapeLoop (l : List S91) (h16 : D_i16s l) (hn : l.length ≤ 140737488351232) (d : Nat) : ∀ (k : Nat) (i : Int), 0 ≤ i → i + d = l.length → d < k → impl_isCurve.l0 k l l (l.length : Int) i = some (D_shapeFrom l d i) := by
  induction d with
  | zero =>
    intro k i h0 hd hk
    obtain ⟨k, rfl⟩ : ∃ m, k = m + 1 := ⟨k - 1, by omega⟩
    simp only [impl_isCurve.l0, D_shapeFrom]; rw [if_neg (by omega)]
  | succ d ih =>
    intro k i h0 hd hk
    obtain ⟨k, rfl⟩ : ∃ m, k = m + 1 := ⟨k - 1, by omega⟩
    have hp := L_p16 h16 h0 (show i < l.length by omega)
    have ih' := ih k (i + 1) (by omega) (by omega) (by omega)
    simp only [impl_isCurve.l0, D_shapeFrom]
    rw [if_pos (by omega), if_pos h0, if_pos (by omega), L_w (x := i + 1) (by omega), L_w (x := i - 1) (by omega)]
    change (impl_isPoint.f (D_px l i) (D_py l i)).bind _ = _
    rw [L_implPoint hp.1 hp.2]
    simp only [Option.bind_some, decide_eq_true_eq]
    by_cases h1 : (-200 ≤ D_px l i ∧ D_px l i ≤ 200) ∧ 0 ≤ D_py l i ∧ D_py l i ≤ 400
    · rw [if_pos h1, if_pos h1]
      by_cases h2 : i > 0
      · rw [if_pos h2, if_pos h2, if_pos (by omega), if_pos (by omega)]
        change (if D_px l (i - 1) ≥ D_px l i then _ else (if D_py l (i - 1) > D_py l i then _ else _)) = _
        by_cases h3 : D_px l i ≤ D_px l (i - 1)
        · rw [if_pos (by omega), if_pos h3]
        · rw [if_neg (by omega), if_neg h3]
          by_cases h4 : D_py l i < D_py l (i - 1)
          · rw [if_pos (by omega), if_pos h4]
          · rw [if_neg (by omega), if_neg h4, ih']
      · rw [if_neg h2, if_neg h2, ih']
    · rw [if_neg h1, if_neg h1]

theorem L_implCurve (l : List S91) (h16 : D_i16s l) (hn : l.length ≤ 140737488351232) {k : Nat} (hk : l.length < k) : impl_ValidCurve.f k l = some (D_curve l) := by
  unfold impl_ValidCurve.f impl_isCurve.f D_curve
  rw [L_implShapeLoop l h16 hn l.length k 0 (by omega) (by omega) hk]
  simp only [Option.bind_some]
  show _ = some (D_shape l && _)
  unfold D_shape
  split
  · rename_i h; rw [h]; rfl
  · rename_i h; rw [Bool.eq_false_iff.mpr h]; rfl

theorem L_atSeg {l : List S91} (h : D_curve l = true) (x : Int) : (x ≤ D_px l 0 ∧ D_at l x = D_py l 0) ∨ (D_px l 0 < x ∧ x ≥ D_px l ((l.length : Int) - 1) ∧ D_at l x = D_py l ((l.length : Int) - 1)) ∨
    (D_px l 0 < x ∧ x < D_px l ((l.length : Int) - 1) ∧ ∃ j : Int, 0 ≤ j ∧ j + 1 < l.length ∧ D_px l j ≤ x ∧ x < D_px l (j + 1) ∧ D_at l x = D_interp l x j) := by
  obtain ⟨hl, hf⟩ := L_curveFacts h
  unfold D_at
  by_cases h1 : x ≤ D_px l 0
  · rw [if_pos h1]; exact .inl ⟨h1, rfl⟩
  · rw [if_neg h1]
    by_cases h2 : x ≥ D_px l ((l.length : Int) - 1)
    · rw [if_pos h2]; exact .inr (.inl ⟨by omega, h2, rfl⟩)
    · rw [if_neg h2]
      obtain ⟨_, _, _, j, a1, a2, a3, a4, a5⟩ := L_atLoops h (x := x) (by omega) (l.length - 1) 13 1 (by omega) (by omega) (by omega) (by rw [show (1 : Int) - 1 = 0 by omega]; omega)
      exact .inr (.inr ⟨by omega, by omega, j, by omega, a2, a3, a4, a5⟩)

theorem L_mono {l : List S91} (h : D_curve l = true) (d : Nat) : ∀ i : Int, 0 ≤ i → i + d < l.length → D_px l i + d ≤ D_px l (i + d) ∧ D_py l i ≤ D_py l (i + d) := by
  obtain ⟨hl, hf⟩ := L_curveFacts h
  induction d with
  | zero => intro i h0 h1; simp
  | succ d ih =>
    intro i h0 h1
    obtain ⟨a, b⟩ := ih i h0 (by omega)
    have f := (hf (i + ((d + 1 : Nat) : Int)) (by omega) (by omega)).2 (by omega)
    rw [show i + ((d + 1 : Nat) : Int) - 1 = i + (d : Int) by omega] at f
    omega

theorem L_mono2 {l : List S91} (h : D_curve l = true) {i j : Int} (h0 : 0 ≤ i) (hij : i ≤ j) (hj : j < l.length) : D_px l i ≤ D_px l j ∧ D_py l i ≤ D_py l j := by
  have := L_mono h (j - i).toNat i h0 (by omega)
  rw [show i + ((j - i).toNat : Int) = j by omega] at this
  omega

theorem L_interpRange {l : List S91} (h : D_curve l = true) {x j : Int} (h0 : 0 ≤ j) (h1 : j + 1 < l.length) (h2 : D_px l j ≤ x) (h3 : x < D_px l (j + 1)) : D_py l j ≤ D_interp l x j ∧ D_interp l x j ≤ D_py l (j + 1) := by
  obtain ⟨hl, hf⟩ := L_curveFacts h
  have f0 := hf j h0 (by omega)
  have f1 := hf (j + 1) (by omega) h1
  have f2 := f1.2 (by omega)
  rw [show j + 1 - 1 = j by omega] at f2
  have hb := L_interpb (y0 := D_py l j) (y1 := D_py l (j + 1)) (x0 := D_px l j) (x1 := D_px l (j + 1)) (x := x) (by omega) (by omega) (by omega) (by omega) h2 (by omega) (by omega)
  unfold D_interp
  omega

theorem L_atMono {l : List S91} (h : D_curve l = true) {x y : Int} (hxy : x ≤ y) : D_at l x ≤ D_at l y := by
  obtain ⟨hl, hf⟩ := L_curveFacts h
  have hn : (0 : Int) ≤ (l.length : Int) - 1 := by omega
  rcases L_atSeg h x with ⟨a1, a2⟩ | ⟨a0, a1, a2⟩ | ⟨a0, a1, j, j0, j1, j2, j3, j4⟩
  · rw [a2]
    rcases L_atSeg h y with ⟨b1, b2⟩ | ⟨b0, b1, b2⟩ | ⟨b0, b1, i, i0, i1, i2, i3, i4⟩
    · rw [b2]; exact Int.le_refl _
    · rw [b2]; exact (L_mono2 h (i := 0) (j := (l.length : Int) - 1) (by omega) hn (by omega)).2
    · rw [i4]
      have := (L_mono2 h (i := 0) (j := i) (by omega) i0 (by omega)).2
      have := L_interpRange h i0 i1 i2 i3
      omega
  · rcases L_atSeg h y with ⟨b1, b2⟩ | ⟨b0, b1, b2⟩ | ⟨b0, b1, i, i0, i1, i2, i3, i4⟩
    · omega
    · rw [a2, b2]; exact Int.le_refl _
    · omega
  · rw [j4]
    have r1 := L_interpRange h j0 j1 j2 j3
    rcases L_atSeg h y with ⟨b1, b2⟩ | ⟨b0, b1, b2⟩ | ⟨b0, b1, i, i0, i1, i2, i3, i4⟩
    · omega
    · rw [b2]
      have := (L_mono2 h (i := j + 1) (j := (l.length : Int) - 1) (by omega) (by omega) (by omega)).2
      omega
    · rw [i4]
      have r2 := L_interpRange h i0 i1 i2 i3
      rcases Int.lt_trichotomy j i with hji | hji | hji
      · have := (L_mono2 h (i := j + 1) (j := i) (by omega) (by omega) (by omega)).2
        omega
      · subst hji
        have f1 := hf (j + 1) (by omega) j1
        have f2 := f1.2 (by omega)
        rw [show j + 1 - 1 = j by omega] at f2
        unfold D_interp
        have m : (D_py l (j + 1) - D_py l j) * (x - D_px l j) ≤ (D_py l (j + 1) - D_py l j) * (y - D_px l j) := Int.mul_le_mul_of_nonneg_left (by omega) (by omega)
        have m2 := Int.ediv_le_ediv (c := D_px l (j + 1) - D_px l j) (by omega) m
        omega
      · have := (L_mono2 h (i := i + 1) (j := j) (by omega) (by omega) (by omega)).1
        omega

-- L_stepsOk L_implSteps L_specIn L_inSpec L_inUnique L_tmvMono L_tmvLt L_areThirds L_specThirds L_timeOf L_specTime L_w L_w8 L_wu L_w16 L_rdS L_rdNe L_rdSet L_at L_specCurve L_implCurve D_i16s L_isDensity L_specDensity L_curveFacts L_atMono
end Go.Proofs.Yticnajjbmdfidaa.PL
