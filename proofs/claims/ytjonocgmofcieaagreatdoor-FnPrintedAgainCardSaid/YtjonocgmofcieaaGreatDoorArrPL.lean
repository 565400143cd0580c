-- Plain lemmas on steps, times and curves, for the texts on arrays.
import Derived.Test.YtjonocgmofcieaaGreatDoorQx5
import Derived.Test.YtjonocgmofcieaaGreatDoorQx7
import Derived.Test.YtjonocgmofcieaaGreatDoorQx10
import Derived.Test.YtjonocgmofcieaaGreatDoorArrKit
import Derived.Test.YtjonocgmofcieaaGreatDoorQx4
import Derived.Test.YtjonocgmofcieaaGreatDoorQx14
import Derived.Laws.Bits64b
import Derived.Test.YtjonocgmofcieaaGreatDoorQx13
import Derived.Lib.SplitLaws
import Derived.Lib.ParseIntBCases
import Derived.Lib.ItoaNum
import Derived.Lib.IndexMore
namespace Go.Proofs.YtjonocgmofcieaaGreatDoor.PL
open Go.RowKit Go.Proofs.YtjonocgmofcieaaGreatDoor.Q Go.Proofs.YtjonocgmofcieaaGreatDoorW.PrintWords Go.Proofs.YtjonocgmofcieaaGreatDoorW.PrintLast Go.Proofs.YtjonocgmofcieaaGreatDoorW.PrintMore
set_option linter.unusedVariables false
set_option linter.unusedSimpArgs false
def D_i8s (l : List S55) : Prop := ∀ x ∈ l, -128 ≤ x.f1 ∧ x.f1 ≤ 127

def D_steps (l : List S55) : Prop := (∀ x ∈ l, 0 ≤ x.f1 ∧ x.f1 ≤ 36) ∧ l.length ≤ 30
instance (l : List S55) : Decidable (D_steps l) := by unfold D_steps; infer_instance

theorem L_sd {p q : Prop} [Decidable p] [Decidable q] (h : p ↔ q) : some (decide p) = some (decide q) := by rw [decide_eq_decide.mpr h]

theorem L_rdS {l : List S55} {i : Int} (h0 : 0 ≤ i) (h : i < l.length) : ∃ hi : i.toNat < l.length, rd_T55 l i = l[i.toNat]'hi :=
  ⟨by omega, by unfold rd_T55; rw [List.getD_eq_getElem?_getD, List.getElem?_eq_getElem (by omega)]; rfl⟩

theorem L_sf {q : Prop} [Decidable q] (h : ¬ q) : some false = some (decide q) := by rw [decide_eq_false h]

theorem L_in (a b c : Int) : spec_l00In.f a b c = some (decide (b ≤ a ∧ a ≤ c)) := by
  unfold spec_l00In.f
  split
  · exact L_sd (by omega)
  · exact L_sf (by omega)

theorem L_specThirds (a : Int) : spec_l03Thirds.f a = some (decide (0 ≤ a ∧ a ≤ 36)) := by
  unfold spec_l03Thirds.f; rw [L_in]; rfl

theorem L_w {x : Int} (h : -9223372036854775808 ≤ x ∧ x ≤ 9223372036854775807) : wrap64 x = x := by unfold wrap64; omega

theorem L_stepsOkLoop (l : List S55) (h8 : D_i8s l) (hn : l.length ≤ 140737488351232) (d : Nat) : ∀ (k : Nat) (i : Int), 0 ≤ i → i + d = l.length → d < k →
    spec_l03Ok.l0 k l i = some (decide ((∀ x ∈ l.drop i.toNat, 0 ≤ x.f1 ∧ x.f1 ≤ 36) ∧ l.length ≤ 30)) := by
  induction d with
  | zero =>
    intro k i h0 hd hk
    obtain ⟨k, rfl⟩ : ∃ m, k = m + 1 := ⟨k - 1, by omega⟩
    simp only [spec_l03Ok.l0]
    rw [if_neg (by omega), List.drop_eq_nil_of_le (by omega)]
    exact L_sd (by simp; omega)
  | succ d ih =>
    intro k i h0 hd hk
    obtain ⟨k, rfl⟩ : ∃ m, k = m + 1 := ⟨k - 1, by omega⟩
    obtain ⟨hi, e⟩ := L_rdS (l := l) (i := i) h0 (by omega)
    have h1 := h8 _ (List.getElem_mem hi)
    rw [← e] at h1
    simp only [spec_l03Ok.l0, L_specThirds, Option.bind_some, decide_eq_true_eq]
    rw [if_pos (by omega), if_pos h0, L_w (x := i + 1) (by omega), L_w (x := (rd_T55 l i).f1) (by omega), List.drop_eq_getElem_cons hi, ← e]
    split
    · rename_i hx
      rw [ih k (i + 1) (by omega) (by omega) (by omega), show (i + 1).toNat = i.toNat + 1 by omega]
      exact L_sd (by simp [hx])
    · rename_i hx
      exact L_sf (fun h => hx (h.1 _ (by simp)))

theorem L_stepsOk (l : List S55) (h8 : D_i8s l) (hn : l.length ≤ 140737488351232) {k : Nat} (hk : l.length < k) : spec_l03Ok.f k l = some (decide (D_steps l)) := by
  unfold spec_l03Ok.f
  rw [L_stepsOkLoop l h8 hn l.length k 0 (by omega) (by omega) hk]
  exact L_sd (by unfold D_steps; simp)

theorem L_idxAnyOn {α : Type} (q : α → Option Bool) (p : α → Bool) : ∀ (l : List α) (i : Int), (∀ x ∈ l, q x = some (p x)) → 0 ≤ i → ∃ r, D_idx q l i = some r ∧ (l.any p = false → r = -1) ∧ (l.any p = true → 0 ≤ r)
  | [], i, _, hi => ⟨-1, rfl, fun _ => rfl, fun h => by simp at h⟩
  | x :: t, i, h, hi => by
    simp only [D_idx, h x (by simp), Option.bind_some]
    by_cases hx : p x = true
    · rw [if_pos hx]
      exact ⟨i, rfl, fun h => by simp [hx] at h, fun _ => hi⟩
    · rw [if_neg hx]
      obtain ⟨r, h1, h2, h3⟩ := L_idxAnyOn q p t (i + 1) (fun y hy => h y (by simp [hy])) (by omega)
      refine ⟨r, h1, fun h => h2 (by simpa [hx] using h), fun h => h3 (by simpa [hx] using h)⟩

theorem L_within (a b c : Int) : impl_within.f a b c = some (decide (b ≤ a ∧ a ≤ c)) := by
  unfold impl_within.f
  split
  · exact L_sd (by omega)
  · exact L_sf (by omega)

theorem L_areThirds (a : Int) : impl_areThirds.f a = some (decide (0 ≤ a ∧ a ≤ 36)) := by
  unfold impl_areThirds.f; rw [L_within]; rfl

theorem L_anyIff {α : Type} (P : α → Prop) [DecidablePred P] (l : List α) (r : Int) (h2 : l.any (fun x => !decide (P x)) = false → r = -1) (h3 : l.any (fun x => !decide (P x)) = true → 0 ≤ r) [Decidable (∀ x ∈ l, P x)] :
    decide (0 ≤ r) = !decide (∀ x ∈ l, P x) := by
  by_cases h : ∀ x ∈ l, P x
  · have e : l.any (fun x => !decide (P x)) = false := by rw [List.any_eq_false]; intro x hx; simp [h x hx]
    rw [h2 e, decide_eq_true h]
    rfl
  · have e : l.any (fun x => !decide (P x)) = true := by
      rw [List.any_eq_true]
      obtain ⟨x, hx⟩ := Classical.not_forall.1 h
      obtain ⟨hx, hh⟩ := Classical.not_imp.1 hx
      exact ⟨x, hx, by simp only [Bool.not_eq_true', decide_eq_false_iff_not]; exact hh⟩
    rw [decide_eq_false h, decide_eq_true (h3 e)]
    rfl


theorem L_implSteps (l : List S55) (h8 : D_i8s l) : impl_ValidSteps.f l = some (decide (D_steps l)) := by
  unfold impl_ValidSteps.f impl_Step_56.f impl_Step_89.f
  rw [if_pos rfl]
  obtain ⟨r, h1, h2, h3⟩ := L_idxAnyOn (fun x : S55 => impl_ValidSteps_1.f x.f0 x.f1) (fun x => !decide (0 ≤ x.f1 ∧ x.f1 ≤ 36)) l 0 (fun x hx => by
    have := h8 x hx
    unfold impl_ValidSteps_1.f
    rw [L_w (x := x.f1) (by omega), L_areThirds]; rfl) (by omega)
  rw [h1]
  simp only [Option.bind_some]
  rw [L_anyIff (fun x : S55 => 0 ≤ x.f1 ∧ x.f1 ≤ 36) l r h2 h3]
  unfold D_steps
  by_cases hl : l.length ≤ 30
  · first
    | rw [if_pos (by omega)]
      simp only [Bool.not_not]
      exact L_sd ⟨fun h => ⟨h, hl⟩, fun h => h.1⟩
    | simp [hl]
  · first
    | rw [if_neg (by omega)]
      exact L_sf (fun h => hl h.2)
    | simp [hl]

def D_inFrom (s : Int) : Nat → Int → Int
  | 0, i => i
  | d + 1, i => if tmv (i + 1) ≤ s then D_inFrom s d (i + 1) else i

def D_in (s : Int) : Int := D_inFrom s 37 (-1)

theorem L_specTimeAll : ∀ n : Nat, n < 37 → spec_l01Time.f n = some (tmv n) := by decide +kernel

theorem L_specTime {k : Int} (h : 0 ≤ k ∧ k ≤ 36) : spec_l01Time.f k = some (tmv k) := by
  obtain ⟨n, rfl⟩ : ∃ n : Nat, k = n := ⟨k.toNat, by omega⟩
  exact L_specTimeAll n (by omega)

theorem L_specInFrom (s : Int) (d : Nat) : ∀ (k : Nat) (i : Int), -1 ≤ i → i + d = 36 → d < k → spec_l01In.l0 k s i = some (D_inFrom s d i) := by
  induction d with
  | zero =>
    intro k i h0 hd hk
    obtain ⟨k, rfl⟩ : ∃ m, k = m + 1 := ⟨k - 1, by omega⟩
    simp only [spec_l01In.l0, D_inFrom]; rw [if_neg (by omega)]
  | succ d ih =>
    intro k i h0 hd hk
    obtain ⟨k, rfl⟩ : ∃ m, k = m + 1 := ⟨k - 1, by omega⟩
    simp only [spec_l01In.l0, D_inFrom]
    rw [if_pos (by omega), L_w (x := i + 1) (by omega), L_specTime (by omega)]
    simp only [Option.bind_some]
    by_cases h : tmv (i + 1) ≤ s
    · rw [if_pos h, if_pos h]; exact ih k (i + 1) (by omega) (by omega) (by omega)
    · rw [if_neg h, if_neg h]

theorem L_specIn (s : Int) {k : Nat} (hk : 38 ≤ k) : spec_l01In.f k s = some (D_in s) :=
  L_specInFrom s 37 k (-1) (by omega) (by omega) (by omega)

theorem L_inFrom (s : Int) (d : Nat) : ∀ i : Int, -1 ≤ i → i + d = 36 → (0 ≤ i → tmv i ≤ s) → i ≤ D_inFrom s d i ∧ D_inFrom s d i ≤ 36 ∧ (0 ≤ D_inFrom s d i → tmv (D_inFrom s d i) ≤ s) ∧ (D_inFrom s d i < 36 → s < tmv (D_inFrom s d i + 1)) := by
  induction d with
  | zero => intro i h0 hd h; unfold D_inFrom; exact ⟨by omega, by omega, h, fun h => by omega⟩
  | succ d ih =>
    intro i h0 hd h
    unfold D_inFrom
    split
    · rename_i hle
      obtain ⟨h1, h2, h3, h4⟩ := ih (i + 1) (by omega) (by omega) (fun _ => hle)
      exact ⟨by omega, h2, h3, h4⟩
    · rename_i hgt
      exact ⟨by omega, by omega, h, fun _ => by omega⟩

theorem L_inSpec (s : Int) : -1 ≤ D_in s ∧ D_in s ≤ 36 ∧ (0 ≤ D_in s → tmv (D_in s) ≤ s) ∧ (D_in s < 36 → s < tmv (D_in s + 1)) :=
  L_inFrom s 37 (-1) (by omega) (by omega) (fun h => by omega)

theorem L_tmvMonoAll : ∀ i : Nat, i < 37 → ∀ j : Nat, j < 37 → i ≤ j → tmv i ≤ tmv j := by decide +kernel

theorem L_tmvMono {i j : Int} (h0 : 0 ≤ i) (h : i ≤ j) (h1 : j ≤ 36) : tmv i ≤ tmv j := by
  obtain ⟨n, rfl⟩ : ∃ n : Nat, i = n := ⟨i.toNat, by omega⟩
  obtain ⟨m, rfl⟩ : ∃ m : Nat, j = m := ⟨j.toNat, by omega⟩
  exact L_tmvMonoAll n (by omega) m (by omega) (by omega)

theorem L_inUnique {s k : Int} (h0 : -1 ≤ k ∧ k ≤ 36) (h1 : 0 ≤ k → tmv k ≤ s) (h2 : k < 36 → s < tmv (k + 1)) : k = D_in s := by
  obtain ⟨a, b, c, d⟩ := L_inSpec s
  rcases Int.lt_trichotomy k (D_in s) with h | h | h
  · have e := L_tmvMono (i := k + 1) (j := D_in s) (by omega) (by omega) b
    have := h2 (by omega)
    have := c (by omega)
    omega
  · exact h
  · have e := L_tmvMono (i := D_in s + 1) (j := k) (by omega) (by omega) h0.2
    have := d (by omega)
    have := h1 (by omega)
    omega

theorem L_tmvLtAll : ∀ i : Nat, i < 36 → tmv i < tmv ((i + 1 : Nat) : Int) := by decide +kernel

theorem L_tmvLt {i j : Int} (h0 : 0 ≤ i) (h : i < j) (h1 : j ≤ 36) : tmv i < tmv j := by
  obtain ⟨n, rfl⟩ : ∃ n : Nat, i = n := ⟨i.toNat, by omega⟩
  have a := L_tmvLtAll n (by omega)
  have b := L_tmvMono (i := ((n + 1 : Nat) : Int)) (j := j) (by omega) (by omega) h1
  omega

theorem L_timeOf {k : Int} (h : 0 ≤ k ∧ k ≤ 36) : impl_timeOf.f k = some (tmv k) := by
  unfold impl_timeOf.f; rw [if_pos h.1, if_pos h.2]

theorem L_w8 {x : Int} (h : -128 ≤ x ∧ x ≤ 127) : IntKind.i8.wrap x = x := by simp [IntKind.wrap, IntKind.bits, IntKind.signed]; omega

theorem L_wu {x : Int} (h : 0 ≤ x ∧ x ≤ 18446744073709551615) : IntKind.u64.wrap x = x := by simp [IntKind.wrap, IntKind.bits, IntKind.signed]; omega

theorem L_w16 {x : Int} (h : -32768 ≤ x ∧ x ≤ 32767) : IntKind.i16.wrap x = x := by simp [IntKind.wrap, IntKind.bits, IntKind.signed]; omega

theorem L_rdNe {l : List S55} {i j : Int} (hi : 0 ≤ i) (hj : 0 ≤ j) (h : i ≠ j) (x : S55) : rd_T55 (l.set i.toNat x) j = rd_T55 l j := by
  unfold rd_T55
  rw [List.getD_eq_getElem?_getD, List.getD_eq_getElem?_getD, List.getElem?_set_ne (by omega)]

theorem L_rdSet {l : List S55} {i : Int} (hi : 0 ≤ i) (h : i < l.length) (x : S55) : rd_T55 (l.set i.toNat x) i = x := by
  unfold rd_T55
  rw [List.getD_eq_getElem?_getD, List.getElem?_set_self (by omega)]; rfl

def D_px (l : List S102) (i : Int) : Int := (rd_T102 l i).f0

def D_py (l : List S102) (i : Int) : Int := (rd_T102 l i).f1

def D_shapeFrom (l : List S102) : Nat → Int → Bool
  | 0, _ => decide ((l.length : Int) > 0)
  | d + 1, i => if (-200 ≤ D_px l i ∧ D_px l i ≤ 200) ∧ 0 ≤ D_py l i ∧ D_py l i ≤ 400 then (if i > 0 then (if D_px l i ≤ D_px l (i - 1) then false else (if D_py l i < D_py l (i - 1) then false else D_shapeFrom l d (i + 1))) else D_shapeFrom l d (i + 1)) else false

def D_shape (l : List S102) : Bool := D_shapeFrom l l.length 0

def D_curve (l : List S102) : Bool := D_shape l && decide ((l.length : Int) ≤ 12)

def D_interp (l : List S102) (x i : Int) : Int := D_py l i + (D_py l (i + 1) - D_py l i) * (x - D_px l i) / (D_px l (i + 1) - D_px l i)

def D_atFrom (l : List S102) (x : Int) : Nat → Int → Int
  | 0, _ => 0
  | d + 1, i => if D_px l i ≤ x then D_atFrom l x d (i + 1) else D_interp l x (i - 1)

def D_at (l : List S102) (x : Int) : Int :=
  if x ≤ D_px l 0 then D_py l 0 else (if x ≥ D_px l ((l.length : Int) - 1) then D_py l ((l.length : Int) - 1) else D_atFrom l x (l.length - 1) 1)

theorem L_shapeFacts (l : List S102) (d : Nat) : ∀ i : Int, 0 ≤ i → i + d = l.length → D_shapeFrom l d i = true →
    0 < l.length ∧ ∀ j : Int, i ≤ j → j < l.length → ((-200 ≤ D_px l j ∧ D_px l j ≤ 200) ∧ 0 ≤ D_py l j ∧ D_py l j ≤ 400) ∧ (j > 0 → D_px l (j - 1) < D_px l j ∧ D_py l (j - 1) ≤ D_py l j) := by
  induction d with
  | zero =>
    intro i h0 hd h
    simp only [D_shapeFrom, decide_eq_true_eq] at h
    exact ⟨by omega, fun j h1 h2 => by omega⟩
  | succ d ih =>
    intro i h0 hd h
    simp only [D_shapeFrom] at h
    by_cases h1 : (-200 ≤ D_px l i ∧ D_px l i ≤ 200) ∧ 0 ≤ D_py l i ∧ D_py l i ≤ 400
    · rw [if_pos h1] at h
      have key : D_shapeFrom l d (i + 1) = true ∧ (i > 0 → D_px l (i - 1) < D_px l i ∧ D_py l (i - 1) ≤ D_py l i) := by
        by_cases h2 : i > 0
        · rw [if_pos h2] at h
          by_cases h3 : D_px l i ≤ D_px l (i - 1)
          · rw [if_pos h3] at h; cases h
          · rw [if_neg h3] at h
            by_cases h4 : D_py l i < D_py l (i - 1)
            · rw [if_pos h4] at h; cases h
            · rw [if_neg h4] at h
              exact ⟨h, fun _ => by omega⟩
        · rw [if_neg h2] at h
          exact ⟨h, fun h => absurd h h2⟩
      obtain ⟨a, b⟩ := ih (i + 1) (by omega) (by omega) key.1
      refine ⟨a, fun j hj hj2 => ?_⟩
      by_cases e : j = i
      · subst e; exact ⟨h1, key.2⟩
      · exact b j (by omega) hj2
    · rw [if_neg h1] at h; cases h

theorem L_curveFacts {l : List S102} (h : D_curve l = true) : (1 ≤ l.length ∧ l.length ≤ 12) ∧ ∀ j : Int, 0 ≤ j → j < l.length → ((-200 ≤ D_px l j ∧ D_px l j ≤ 200) ∧ 0 ≤ D_py l j ∧ D_py l j ≤ 400) ∧ (j > 0 → D_px l (j - 1) < D_px l j ∧ D_py l (j - 1) ≤ D_py l j) := by
  unfold D_curve D_shape at h
  simp only [Bool.and_eq_true, decide_eq_true_eq] at h
  obtain ⟨a, b⟩ := L_shapeFacts l l.length 0 (by omega) (by omega) h.1
  exact ⟨by omega, b⟩

theorem L_pxF (l : List S102) (i : Int) : (rd_T102 l i).f0 = D_px l i := rfl

theorem L_pyF (l : List S102) (i : Int) : (rd_T102 l i).f1 = D_py l i := rfl

theorem L_mulb {x y X Y : Int} (h : 0 ≤ x) (hx : x ≤ X) (k : 0 ≤ y) (ky : y ≤ Y) : 0 ≤ x * y ∧ x * y ≤ X * Y :=
  ⟨Int.mul_nonneg h k, Int.mul_le_mul hx ky k (Int.le_trans h hx)⟩

theorem L_quot {a b q : Int} (ha : 0 ≤ a) (hb : 0 < b) (h : a ≤ q * b) : 0 ≤ a / b ∧ a / b ≤ q := by
  refine ⟨Int.ediv_nonneg ha (by omega), ?_⟩
  have := Int.ediv_le_ediv hb h
  rwa [Int.mul_ediv_cancel _ (by omega)] at this

theorem L_interpb {y0 y1 x0 x1 x : Int} (hy0 : 0 ≤ y0) (hy : y0 ≤ y1) (hy1 : y1 ≤ 400) (hx : x0 < x1) (h0 : x0 ≤ x) (h1 : x ≤ x1) (hb : -200 ≤ x0 ∧ x1 ≤ 200) :
    (0 ≤ (y1 - y0) * (x - x0) ∧ (y1 - y0) * (x - x0) ≤ 160000) ∧ 0 ≤ (y1 - y0) * (x - x0) / (x1 - x0) ∧ (y1 - y0) * (x - x0) / (x1 - x0) ≤ y1 - y0 := by
  have m1 := L_mulb (x := y1 - y0) (y := x - x0) (X := 400) (Y := 400) (by omega) (by omega) (by omega) (by omega)
  have m2 := L_mulb (x := y1 - y0) (y := x - x0) (X := y1 - y0) (Y := x1 - x0) (by omega) (by omega) (by omega) (by omega)
  exact ⟨by omega, L_quot m1.1 (by omega) m2.2⟩

theorem L_atLoops {l : List S102} (h : D_curve l = true) {x : Int} (hx : x < D_px l ((l.length : Int) - 1)) (d : Nat) : ∀ (k : Nat) (i : Int), 1 ≤ i → i + d = l.length → d < k → D_px l (i - 1) ≤ x →
    (spec_l02At.l0 k l x (i - 1) = some (D_atFrom l x d i) ∧ impl_Curve_at.l0 k l x i = some (D_atFrom l x d i)) ∧ 0 ≤ D_atFrom l x d i ∧ D_atFrom l x d i ≤ 400 ∧
      ∃ j, i - 1 ≤ j ∧ j + 1 < l.length ∧ D_px l j ≤ x ∧ x < D_px l (j + 1) ∧ D_atFrom l x d i = D_interp l x j := by
  obtain ⟨hl, hf⟩ := L_curveFacts h
  induction d with
  | zero =>
    intro k i h1 hd hk hp
    have : i - 1 = (l.length : Int) - 1 := by omega
    rw [this] at hp
    omega
  | succ d ih =>
    intro k i h1 hd hk hp
    obtain ⟨k, rfl⟩ : ∃ m, k = m + 1 := ⟨k - 1, by omega⟩
    have f0 := hf (i - 1) (by omega) (by omega)
    have f1 := hf i (by omega) (by omega)
    have f2 := f1.2 (by omega)
    have w1 : wrap64 (i - 1 + 1) = i := by rw [L_w (by omega)]; omega
    have w2 : wrap64 (i - 1) = i - 1 := L_w (by omega)
    have w3 : wrap64 (i + 1) = i + 1 := L_w (by omega)
    have wx1 : wrap64 (D_px l i) = D_px l i := L_w (by omega)
    have wy1 : wrap64 (D_py l i) = D_py l i := L_w (by omega)
    have wx0 : wrap64 (D_px l (i - 1)) = D_px l (i - 1) := L_w (by omega)
    have wy0 : wrap64 (D_py l (i - 1)) = D_py l (i - 1) := L_w (by omega)
    simp only [spec_l02At.l0, impl_Curve_at.l0, D_atFrom, L_pxF, L_pyF, w1, w2, w3, wx1, wy1, wx0, wy0]
    have c1 : 0 ≤ i := by omega
    have c2 : i < (l.length : Int) := by omega
    have c3 : 0 ≤ i - 1 := by omega
    have c4 : i - 1 < (l.length : Int) := by omega
    simp only [if_pos c1, if_pos c2, if_pos c3, if_pos c4]
    by_cases hc : D_px l i ≤ x
    · have e : i + 1 - 1 = i := by omega
      obtain ⟨⟨a1, a2⟩, a3, a4, j, b1, b2, b3, b4, b5⟩ := ih k (i + 1) (by omega) (by omega) (by omega) (by rw [e]; exact hc)
      rw [e] at a1
      simp only [if_pos hc]
      exact ⟨⟨a1, a2⟩, a3, a4, j, by omega, b2, b3, b4, b5⟩
    · have hb := L_interpb (y0 := D_py l (i - 1)) (y1 := D_py l i) (x0 := D_px l (i - 1)) (x1 := D_px l i) (x := x) (by omega) (by omega) (by omega) (by omega) hp (by omega) (by omega)
      have e : i - 1 + 1 = i := by omega
      have v1 : IntKind.i16.wrap (D_px l i - D_px l (i - 1)) = D_px l i - D_px l (i - 1) := L_w16 (by omega)
      have v2 : IntKind.i16.wrap (D_py l i - D_py l (i - 1)) = D_py l i - D_py l (i - 1) := L_w16 (by omega)
      have u1 : wrap64 (D_px l i - D_px l (i - 1)) = D_px l i - D_px l (i - 1) := L_w (by omega)
      have u2 : wrap64 (D_py l i - D_py l (i - 1)) = D_py l i - D_py l (i - 1) := L_w (by omega)
      have u3 : wrap64 (x - D_px l (i - 1)) = x - D_px l (i - 1) := L_w (by omega)
      have u4 : wrap64 ((D_py l i - D_py l (i - 1)) * (x - D_px l (i - 1))) = (D_py l i - D_py l (i - 1)) * (x - D_px l (i - 1)) := L_w (by omega)
      have u5 : ((D_py l i - D_py l (i - 1)) * (x - D_px l (i - 1))).tdiv (D_px l i - D_px l (i - 1)) = (D_py l i - D_py l (i - 1)) * (x - D_px l (i - 1)) / (D_px l i - D_px l (i - 1)) := Int.tdiv_eq_ediv_of_nonneg hb.1.1
      have u6 : wrap64 ((D_py l i - D_py l (i - 1)) * (x - D_px l (i - 1)) / (D_px l i - D_px l (i - 1))) = (D_py l i - D_py l (i - 1)) * (x - D_px l (i - 1)) / (D_px l i - D_px l (i - 1)) := L_w (by omega)
      have u7 : wrap64 (D_py l (i - 1) + (D_py l i - D_py l (i - 1)) * (x - D_px l (i - 1)) / (D_px l i - D_px l (i - 1))) = D_py l (i - 1) + (D_py l i - D_py l (i - 1)) * (x - D_px l (i - 1)) / (D_px l i - D_px l (i - 1)) := L_w (by omega)
      have c5 : ¬ (D_px l i - D_px l (i - 1) = 0) := by omega
      simp only [if_neg hc, v1, v2, u1, u2, u3, u4, u5, u6, u7, if_neg c5]
      unfold D_interp
      rw [e]
      exact ⟨⟨rfl, rfl⟩, by omega, by omega, i - 1, by omega, by omega, hp, by rw [e]; omega, by rw [e]⟩

theorem L_at {l : List S102} (h : D_curve l = true) {x : Int} {k : Nat} (hk : 13 ≤ k) : spec_l02At.f k l x = some (D_at l x) ∧ impl_Curve_at.f k l x = some (D_at l x) ∧ 0 ≤ D_at l x ∧ D_at l x ≤ 400 := by
  obtain ⟨hl, hf⟩ := L_curveFacts h
  have f0 := hf 0 (by omega) (by omega)
  have fn := hf ((l.length : Int) - 1) (by omega) (by omega)
  have w1 : wrap64 ((l.length : Int) - 1) = (l.length : Int) - 1 := L_w (by omega)
  have c1 : 0 < (l.length : Int) := by omega
  have c2 : 0 ≤ (l.length : Int) - 1 := by omega
  have c3 : (l.length : Int) - 1 < (l.length : Int) := by omega
  have wx0 : wrap64 (D_px l 0) = D_px l 0 := L_w (by omega)
  have wy0 : wrap64 (D_py l 0) = D_py l 0 := L_w (by omega)
  have wx1 : wrap64 (D_px l ((l.length : Int) - 1)) = D_px l ((l.length : Int) - 1) := L_w (by omega)
  have wy1 : wrap64 (D_py l ((l.length : Int) - 1)) = D_py l ((l.length : Int) - 1) := L_w (by omega)
  unfold spec_l02At.f impl_Curve_at.f D_at
  simp only [L_pxF, L_pyF, w1, wx0, wy0, wx1, wy1, if_pos c1, if_pos c2, if_pos c3]
  by_cases h1 : x ≤ D_px l 0
  · simp only [if_pos h1]; exact ⟨trivial, trivial, by omega, by omega⟩
  · by_cases h2 : x ≥ D_px l ((l.length : Int) - 1)
    · simp only [if_neg h1, if_pos h2]; exact ⟨trivial, trivial, by omega, by omega⟩
    · simp only [if_neg h1, if_neg h2]
      obtain ⟨⟨a1, a2⟩, a3, a4, _⟩ := L_atLoops h (x := x) (by omega) (l.length - 1) k 1 (by omega) (by omega) (by omega) (by rw [show (1 : Int) - 1 = 0 by omega]; omega)
      exact ⟨a1, a2, a3, a4⟩

def D_i16s (l : List S102) : Prop := ∀ x ∈ l, (-32768 ≤ x.f0 ∧ x.f0 ≤ 32767) ∧ -32768 ≤ x.f1 ∧ x.f1 ≤ 32767

theorem L_rdP {l : List S102} {i : Int} (h0 : 0 ≤ i) (h : i < l.length) : ∃ hi : i.toNat < l.length, rd_T102 l i = l[i.toNat]'hi :=
  ⟨by omega, by unfold rd_T102; rw [List.getD_eq_getElem?_getD, List.getElem?_eq_getElem (by omega)]; rfl⟩

theorem L_p16 {l : List S102} (h : D_i16s l) {i : Int} (h0 : 0 ≤ i) (h1 : i < l.length) : (-32768 ≤ D_px l i ∧ D_px l i ≤ 32767) ∧ -32768 ≤ D_py l i ∧ D_py l i ≤ 32767 := by
  obtain ⟨hi, e⟩ := L_rdP (l := l) (i := i) h0 h1
  unfold D_px D_py
  rw [e]
  exact h _ (List.getElem_mem hi)

theorem L_specDensity (a : Int) : spec_l02Density.f a = some (decide (0 ≤ a ∧ a ≤ 400)) := by unfold spec_l02Density.f; rw [L_in]; rfl

theorem L_specPoint {x y : Int} (hx : -32768 ≤ x ∧ x ≤ 32767) (hy : -32768 ≤ y ∧ y ≤ 32767) : spec_l02Point.f x y = some (decide ((-200 ≤ x ∧ x ≤ 200) ∧ 0 ≤ y ∧ y ≤ 400)) := by
  unfold spec_l02Point.f spec_l02Place.f
  rw [L_w (x := x) (by omega), L_w (x := y) (by omega), L_in, L_specDensity]
  simp only [Option.bind_some, decide_eq_true_eq]
  split
  · exact L_sd (by omega)
  · exact L_sf (by omega)

theorem L_specShapeLoop (l : List S102) (h16 : D_i16s l) (hn : l.length ≤ 140737488351232) (d : Nat) : ∀ (k : Nat) (i : Int), 0 ≤ i → i + d = l.length → d < k → spec_l02Shape.l0 k l i = some (D_shapeFrom l d i) := by
  induction d with
  | zero =>
    intro k i h0 hd hk
    obtain ⟨k, rfl⟩ : ∃ m, k = m + 1 := ⟨k - 1, by omega⟩
    simp only [spec_l02Shape.l0, D_shapeFrom]; rw [if_neg (by omega)]
  | succ d ih =>
    intro k i h0 hd hk
    obtain ⟨k, rfl⟩ : ∃ m, k = m + 1 := ⟨k - 1, by omega⟩
    have hp := L_p16 h16 h0 (show i < l.length by omega)
    have ih' := ih k (i + 1) (by omega) (by omega) (by omega)
    simp only [spec_l02Shape.l0, D_shapeFrom]
    rw [if_pos (by omega), if_pos h0, L_w (x := i + 1) (by omega), L_w (x := i - 1) (by omega)]
    change (spec_l02Point.f (D_px l i) (D_py l i)).bind _ = _
    rw [L_specPoint hp.1 hp.2]
    simp only [Option.bind_some, decide_eq_true_eq]
    by_cases h1 : (-200 ≤ D_px l i ∧ D_px l i ≤ 200) ∧ 0 ≤ D_py l i ∧ D_py l i ≤ 400
    · rw [if_pos h1, if_pos h1]
      by_cases h2 : i > 0
      · rw [if_pos h2, if_pos h2, if_pos (by omega), if_pos (by omega)]
        change (if D_px l i ≤ D_px l (i - 1) then _ else (if D_py l i < D_py l (i - 1) then _ else _)) = _
        by_cases h3 : D_px l i ≤ D_px l (i - 1)
        · rw [if_pos h3, if_pos h3]
        · rw [if_neg h3, if_neg h3]
          by_cases h4 : D_py l i < D_py l (i - 1)
          · rw [if_pos h4, if_pos h4]
          · rw [if_neg h4, if_neg h4, ih']
      · rw [if_neg h2, if_neg h2, ih']
    · rw [if_neg h1, if_neg h1]

theorem L_specCurve (l : List S102) (h16 : D_i16s l) (hn : l.length ≤ 140737488351232) {k : Nat} (hk : l.length < k) : spec_l02Ok.f k l = some (D_curve l) := by
  unfold spec_l02Ok.f spec_l02Shape.f D_curve
  rw [L_specShapeLoop l h16 hn l.length k 0 (by omega) (by omega) hk]
  simp only [Option.bind_some]
  show _ = some (D_shape l && _)
  unfold D_shape
  split
  · rename_i h; rw [h]; rfl
  · rename_i h; rw [Bool.eq_false_iff.mpr h]; rfl

theorem L_isPlace (x : Int) : impl_isPlace.f x = some (decide (-200 ≤ x ∧ x ≤ 200)) := by unfold impl_isPlace.f; rw [L_within]; rfl

theorem L_isDensity (a : Int) : impl_isDensity.f a = some (decide (0 ≤ a ∧ a ≤ 400)) := by unfold impl_isDensity.f; rw [L_within]; rfl

theorem L_implPoint {x y : Int} (hx : -32768 ≤ x ∧ x ≤ 32767) (hy : -32768 ≤ y ∧ y ≤ 32767) : impl_isPoint.f x y = some (decide ((-200 ≤ x ∧ x ≤ 200) ∧ 0 ≤ y ∧ y ≤ 400)) := by
  unfold impl_isPoint.f
  rw [L_w (x := x) (by omega), L_w (x := y) (by omega), L_isPlace, L_isDensity]
  simp only [Option.bind_some, decide_eq_true_eq]
  split
  · exact L_sd (by omega)
  · exact L_sf (by omega)

theorem L_implShapeLoop (l : List S102) (h16 : D_i16s l) (hn : l.length ≤ 140737488351232) (d : Nat) : ∀ (k : Nat) (i : Int), 0 ≤ i → i + d = l.length → d < k → impl_isCurve.l0 k l l (l.length : Int) i = some (D_shapeFrom l d i) := by
  induction d with
  | zero =>
    intro k i h0 hd hk
    obtain ⟨k, rfl⟩ : ∃ m, k = m + 1 := ⟨k - 1, by omega⟩
    simp only [impl_isCurve.l0, D_shapeFrom]; rw [if_neg (by omega)]
  | succ d ih =>
    intro k i h0 hd hk
    obtain ⟨k, rfl⟩ : ∃ m, k = m + 1 := ⟨k - 1, by omega⟩
    have hp := L_p16 h16 h0 (show i < l.length by omega)
    have ih' := ih k (i + 1) (by omega) (by omega) (by omega)
    simp only [impl_isCurve.l0, D_shapeFrom]
    rw [if_pos (by omega), if_pos h0, if_pos (by omega), L_w (x := i + 1) (by omega), L_w (x := i - 1) (by omega)]
    change (impl_isPoint.f (D_px l i) (D_py l i)).bind _ = _
    rw [L_implPoint hp.1 hp.2]
    simp only [Option.bind_some, decide_eq_true_eq]
    by_cases h1 : (-200 ≤ D_px l i ∧ D_px l i ≤ 200) ∧ 0 ≤ D_py l i ∧ D_py l i ≤ 400
    · rw [if_pos h1, if_pos h1]
      by_cases h2 : i > 0
      · rw [if_pos h2, if_pos h2, if_pos (by omega), if_pos (by omega)]
        change (if D_px l (i - 1) ≥ D_px l i then _ else (if D_py l (i - 1) > D_py l i then _ else _)) = _
        by_cases h3 : D_px l i ≤ D_px l (i - 1)
        · rw [if_pos (by omega), if_pos h3]
        · rw [if_neg (by omega), if_neg h3]
          by_cases h4 : D_py l i < D_py l (i - 1)
          · rw [if_pos (by omega), if_pos h4]
          · rw [if_neg (by omega), if_neg h4, ih']
      · rw [if_neg h2, if_neg h2, ih']
    · rw [if_neg h1, if_neg h1]

theorem L_implCurve (l : List S102) (h16 : D_i16s l) (hn : l.length ≤ 140737488351232) {k : Nat} (hk : l.length < k) : impl_ValidCurve.f k l = some (D_curve l) := by
  unfold impl_ValidCurve.f impl_isCurve.f D_curve
  rw [L_implShapeLoop l h16 hn l.length k 0 (by omega) (by omega) hk]
  simp only [Option.bind_some]
  show _ = some (D_shape l && _)
  unfold D_shape
  split
  · rename_i h; rw [h]; rfl
  · rename_i h; rw [Bool.eq_false_iff.mpr h]; rfl

theorem L_atSeg {l : List S102} (h : D_curve l = true) (x : Int) : (x ≤ D_px l 0 ∧ D_at l x = D_py l 0) ∨ (D_px l 0 < x ∧ x ≥ D_px l ((l.length : Int) - 1) ∧ D_at l x = D_py l ((l.length : Int) - 1)) ∨
    (D_px l 0 < x ∧ x < D_px l ((l.length : Int) - 1) ∧ ∃ j : Int, 0 ≤ j ∧ j + 1 < l.length ∧ D_px l j ≤ x ∧ x < D_px l (j + 1) ∧ D_at l x = D_interp l x j) := by
  obtain ⟨hl, hf⟩ := L_curveFacts h
  unfold D_at
  by_cases h1 : x ≤ D_px l 0
  · rw [if_pos h1]; exact .inl ⟨h1, rfl⟩
  · rw [if_neg h1]
    by_cases h2 : x ≥ D_px l ((l.length : Int) - 1)
    · rw [if_pos h2]; exact .inr (.inl ⟨by omega, h2, rfl⟩)
    · rw [if_neg h2]
      obtain ⟨_, _, _, j, a1, a2, a3, a4, a5⟩ := L_atLoops h (x := x) (by omega) (l.length - 1) 13 1 (by omega) (by omega) (by omega) (by rw [show (1 : Int) - 1 = 0 by omega]; omega)
      exact .inr (.inr ⟨by omega, by omega, j, by omega, a2, a3, a4, a5⟩)

theorem L_mono {l : List S102} (h : D_curve l = true) (d : Nat) : ∀ i : Int, 0 ≤ i → i + d < l.length → D_px l i + d ≤ D_px l (i + d) ∧ D_py l i ≤ D_py l (i + d) := by
  obtain ⟨hl, hf⟩ := L_curveFacts h
  induction d with
  | zero => intro i h0 h1; simp
  | succ d ih =>
    intro i h0 h1
    obtain ⟨a, b⟩ := ih i h0 (by omega)
    have f := (hf (i + ((d + 1 : Nat) : Int)) (by omega) (by omega)).2 (by omega)
    rw [show i + ((d + 1 : Nat) : Int) - 1 = i + (d : Int) by omega] at f
    omega

theorem L_mono2 {l : List S102} (h : D_curve l = true) {i j : Int} (h0 : 0 ≤ i) (hij : i ≤ j) (hj : j < l.length) : D_px l i ≤ D_px l j ∧ D_py l i ≤ D_py l j := by
  have := L_mono h (j - i).toNat i h0 (by omega)
  rw [show i + ((j - i).toNat : Int) = j by omega] at this
  omega

theorem L_interpRange {l : List S102} (h : D_curve l = true) {x j : Int} (h0 : 0 ≤ j) (h1 : j + 1 < l.length) (h2 : D_px l j ≤ x) (h3 : x < D_px l (j + 1)) : D_py l j ≤ D_interp l x j ∧ D_interp l x j ≤ D_py l (j + 1) := by
  obtain ⟨hl, hf⟩ := L_curveFacts h
  have f0 := hf j h0 (by omega)
  have f1 := hf (j + 1) (by omega) h1
  have f2 := f1.2 (by omega)
  rw [show j + 1 - 1 = j by omega] at f2
  have hb := L_interpb (y0 := D_py l j) (y1 := D_py l (j + 1)) (x0 := D_px l j) (x1 := D_px l (j + 1)) (x := x) (by omega) (by omega) (by omega) (by omega) h2 (by omega) (by omega)
  unfold D_interp
  omega

theorem L_atMono {l : List S102} (h : D_curve l = true) {x y : Int} (hxy : x ≤ y) : D_at l x ≤ D_at l y := by
  obtain ⟨hl, hf⟩ := L_curveFacts h
  have hn : (0 : Int) ≤ (l.length : Int) - 1 := by omega
  rcases L_atSeg h x with ⟨a1, a2⟩ | ⟨a0, a1, a2⟩ | ⟨a0, a1, j, j0, j1, j2, j3, j4⟩
  · rw [a2]
    rcases L_atSeg h y with ⟨b1, b2⟩ | ⟨b0, b1, b2⟩ | ⟨b0, b1, i, i0, i1, i2, i3, i4⟩
    · rw [b2]; exact Int.le_refl _
    · rw [b2]; exact (L_mono2 h (i := 0) (j := (l.length : Int) - 1) (by omega) hn (by omega)).2
    · rw [i4]
      have := (L_mono2 h (i := 0) (j := i) (by omega) i0 (by omega)).2
      have := L_interpRange h i0 i1 i2 i3
      omega
  · rcases L_atSeg h y with ⟨b1, b2⟩ | ⟨b0, b1, b2⟩ | ⟨b0, b1, i, i0, i1, i2, i3, i4⟩
    · omega
    · rw [a2, b2]; exact Int.le_refl _
    · omega
  · rw [j4]
    have r1 := L_interpRange h j0 j1 j2 j3
    rcases L_atSeg h y with ⟨b1, b2⟩ | ⟨b0, b1, b2⟩ | ⟨b0, b1, i, i0, i1, i2, i3, i4⟩
    · omega
    · rw [b2]
      have := (L_mono2 h (i := j + 1) (j := (l.length : Int) - 1) (by omega) (by omega) (by omega)).2
      omega
    · rw [i4]
      have r2 := L_interpRange h i0 i1 i2 i3
      rcases Int.lt_trichotomy j i with hji | hji | hji
      · have := (L_mono2 h (i := j + 1) (j := i) (by omega) (by omega) (by omega)).2
        omega
      · subst hji
        have f1 := hf (j + 1) (by omega) j1
        have f2 := f1.2 (by omega)
        rw [show j + 1 - 1 = j by omega] at f2
        unfold D_interp
        have m : (D_py l (j + 1) - D_py l j) * (x - D_px l j) ≤ (D_py l (j + 1) - D_py l j) * (y - D_px l j) := Int.mul_le_mul_of_nonneg_left (by omega) (by omega)
        have m2 := Int.ediv_le_ediv (c := D_px l (j + 1) - D_px l j) (by omega) m
        omega
      · have := (L_mono2 h (i := i + 1) (j := j) (by omega) (by omega) (by omega)).1
        omega

-- L_stepsOk L_implSteps L_specIn L_inSpec L_inUnique L_tmvMono L_tmvLt L_areThirds L_specThirds L_timeOf L_specTime L_w L_w8 L_wu L_w16 L_rdS L_rdNe L_rdSet L_at L_specCurve L_implCurve D_i16s L_isDensity L_specDensity L_curveFacts L_atMono
end Go.Proofs.YtjonocgmofcieaaGreatDoor.PL
namespace Go.Proofs.YtjonocgmofcieaaGreatDoor.PL
open Go.RowKit Go.Proofs.YtjonocgmofcieaaGreatDoor.Q Go.Proofs.YtjonocgmofcieaaGreatDoorW.PrintWords Go.Proofs.YtjonocgmofcieaaGreatDoorW.PrintLast Go.Proofs.YtjonocgmofcieaaGreatDoorW.PrintMore
set_option linter.unusedVariables false
set_option linter.unusedSimpArgs false
theorem L_rdByte {l : List Int} (hl : ∀ x ∈ l, 0 ≤ x ∧ x ≤ 255) (i : Int) : 0 ≤ rd l i ∧ rd l i ≤ 255 := by
  unfold rd
  by_cases h : i.toNat < l.length
  · have := hl _ (List.getElem_mem h)
    simpa [List.getD, List.getElem?_eq_getElem h] using this
  · simp [List.getD, List.getElem?_eq_none (Nat.le_of_not_lt h)]

theorem L_and255 (x : Int) : 0 ≤ Go.bits .and .u64 (IntKind.u64.wrap x / 1099511627776) 255 ∧ Go.bits .and .u64 (IntKind.u64.wrap x / 1099511627776) 255 ≤ 255 := by
  rw [IntKind.wrap_u64]
  obtain ⟨n, hn⟩ : ∃ n : Nat, x % 18446744073709551616 / 1099511627776 = n := ⟨(x % 18446744073709551616 / 1099511627776).toNat, by omega⟩
  have h2 : n < 2 ^ 64 := by omega
  rw [hn, show (255 : Int) = ((255 : Nat) : Int) from rfl, bits_and_u64_nat n 255 (by omega) (by omega)]
  have := Nat.and_le_right (n := n) (m := 255)
  omega

theorem L_next {l : List Int} (hl : ∀ x ∈ l, 0 ≤ x ∧ x ≤ 255) {a : Int} (ha : 0 ≤ a ∧ a ≤ 4611686018427387904) (z : Int) :
    ∃ x y, spec_l00Src_next.f l a z = some (x, a + 1, y) ∧ 0 ≤ x ∧ x ≤ 255 := by
  unfold spec_l00Src_next.f
  have hb := L_rdByte hl a
  rw [L_w (x := a + 1) (by omega), L_w (x := rd l a) (by omega)]
  split
  · rw [if_pos ha.1]
    split
    · exact ⟨_, _, rfl, hb.1, hb.2⟩
    · have := L_and255 ((IntKind.u64.wrap ((IntKind.u64.wrap (z * 6364136223846793005)) + (IntKind.u64.wrap (rd l a)))) + 1442695040888963407)
      rw [L_w (by omega)]
      exact ⟨_, _, rfl, this.1, this.2⟩
  · split
    · exact ⟨_, _, rfl, by omega, by omega⟩
    · have := L_and255 ((IntKind.u64.wrap ((IntKind.u64.wrap (z * 6364136223846793005)))) + 1442695040888963407)
      rw [L_w (by omega)]
      exact ⟨_, _, rfl, this.1, this.2⟩

theorem L_pick {l : List Int} (hl : ∀ x ∈ l, 0 ≤ x ∧ x ≤ 255) {a : Int} (ha : 0 ≤ a ∧ a ≤ 4611686018427387000) (z n : Int) :
    ∃ x b y, spec_l00Src_pick.f l a z n = some (x, b, y) ∧ 0 ≤ x ∧ (x < n ∨ n ≤ 1 ∧ x = 0) ∧ a ≤ b ∧ b ≤ a + 2 := by
  unfold spec_l00Src_pick.f
  split
  · exact ⟨_, _, _, rfl, by omega, by omega, by omega, by omega⟩
  · rename_i hn
    obtain ⟨x, y, e, h1, h2⟩ := L_next hl (a := a) (by omega) z
    rw [e]
    simp only [Option.bind_some]
    split
    · obtain ⟨x', y', e', h1', h2'⟩ := L_next hl (a := a + 1) (by omega) y
      rw [e']
      simp only [Option.bind_some]
      rw [if_neg (by omega), L_w (x := x * 256) (by omega), L_w (x := x * 256 + x') (by omega), Int.tmod_eq_emod_of_nonneg (by omega)]
      exact ⟨_, _, _, rfl, Int.emod_nonneg _ (by omega), Or.inl (Int.emod_lt_of_pos _ (by omega)), by omega, by omega⟩
    · rw [if_neg (by omega), Int.tmod_eq_emod_of_nonneg h1]
      exact ⟨_, _, _, rfl, Int.emod_nonneg _ (by omega), Or.inl (Int.emod_lt_of_pos _ (by omega)), by omega, by omega⟩

def D_rise (o : List S102) : Prop := ∀ j : Int, 0 ≤ j → j < o.length → ((-200 ≤ D_px o j ∧ D_px o j ≤ 200) ∧ 0 ≤ D_py o j ∧ D_py o j ≤ 400) ∧ (j > 0 → D_px o (j - 1) < D_px o j ∧ D_py o (j - 1) ≤ D_py o j)

theorem L_pxLast (o : List S102) (q : S102) : D_px (o ++ [q]) o.length = q.f0 ∧ D_py (o ++ [q]) o.length = q.f1 := by
  obtain ⟨b, e2⟩ := L_rdP (l := o ++ [q]) (i := (o.length : Int)) (by omega) (by simp; omega)
  unfold D_px D_py
  rw [e2]
  simp

theorem L_pxApp (o : List S102) (q : S102) {j : Int} (h0 : 0 ≤ j) (h1 : j < o.length) : D_px (o ++ [q]) j = D_px o j ∧ D_py (o ++ [q]) j = D_py o j := by
  obtain ⟨a, e1⟩ := L_rdP (l := o) (i := j) h0 h1
  obtain ⟨b, e2⟩ := L_rdP (l := o ++ [q]) (i := j) h0 (by simp; omega)
  unfold D_px D_py
  rw [e1, e2, List.getElem_append_left a]
  exact ⟨rfl, rfl⟩

theorem L_riseApp {o : List S102} {x y : Int} (h : D_rise o) (hx : -200 ≤ x ∧ x ≤ 200) (hy : 0 ≤ y ∧ y ≤ 400) (hl : 0 < o.length → D_px o ((o.length : Int) - 1) < x ∧ D_py o ((o.length : Int) - 1) ≤ y) : D_rise (o ++ [⟨x, y⟩]) := by
  intro j h0 h1
  rw [List.length_append] at h1
  simp only [List.length_cons, List.length_nil] at h1
  by_cases e : j = o.length
  · subst e
    obtain ⟨q1, q2⟩ := L_pxLast o ⟨x, y⟩
    rw [q1, q2]
    refine ⟨⟨hx, hy⟩, fun hj => ?_⟩
    obtain ⟨q3, q4⟩ := L_pxApp o ⟨x, y⟩ (j := (o.length : Int) - 1) (by omega) (by omega)
    rw [q3, q4]
    exact hl (by omega)
  · obtain ⟨q1, q2⟩ := L_pxApp o ⟨x, y⟩ (j := j) h0 (by omega)
    rw [q1, q2]
    obtain ⟨a, b⟩ := h j h0 (by omega)
    refine ⟨a, fun hj => ?_⟩
    obtain ⟨q3, q4⟩ := L_pxApp o ⟨x, y⟩ (j := j - 1) (by omega) (by omega)
    rw [q3, q4]
    exact b hj

theorem L_paperRun {l : List Int} (hl : ∀ x ∈ l, 0 ≤ x ∧ x ≤ 255) (e : Nat) : ∀ (k : Nat) (o : List S102) (x y a z : Int), e < k → 0 ≤ a → a + 4 * e ≤ 4611686018427386000 → o.length + e ≤ 6 → -20 ≤ x → x + 9 * e ≤ 80 → 0 ≤ y → y + 50 * e ≤ 400 → D_rise o → (0 < o.length → D_px o ((o.length : Int) - 1) < x ∧ D_py o ((o.length : Int) - 1) ≤ y) →
    ∃ P b w, spec_l02Drawn.l0 k o x y (e : Int) l a z = some (P, b, w) ∧ P.length = o.length + e ∧ D_rise P := by
  induction e with
  | zero =>
    intro k o x y a z hk h0 h1 h2 h3 h4 h5 h6 h7 h8
    obtain ⟨k, rfl⟩ : ∃ q, k = q + 1 := ⟨k - 1, by omega⟩
    simp only [spec_l02Drawn.l0]
    rw [if_neg (by omega)]
    exact ⟨o, a, z, rfl, by omega, h7⟩
  | succ e ih =>
    intro k o x y a z hk h0 h1 h2 h3 h4 h5 h6 h7 h8
    obtain ⟨k, rfl⟩ : ∃ q, k = q + 1 := ⟨k - 1, by omega⟩
    simp only [spec_l02Drawn.l0]
    obtain ⟨u, b, w, e1, u0, u1, b0, b1⟩ := L_pick hl (a := a) (by omega) z 9
    rw [if_pos (by omega), if_pos (by omega), e1]
    simp only [Option.bind_some]
    obtain ⟨u', b', w', e2, u0', u1', b0', b1'⟩ := L_pick hl (a := b) (by omega) w 50
    rw [e2]
    simp only [Option.bind_some]
    rw [L_w16 (x := x) (by omega), L_w16 (x := y) (by omega), L_w (x := 1 + u) (by omega), L_w (x := x + (1 + u)) (by omega), L_w (x := y + u') (by omega), show ((e + 1 : Nat) : Int) - 1 = (e : Int) by omega, L_w (x := (e : Int)) (by omega)]
    obtain ⟨q1, q2⟩ := L_pxLast o ⟨x, y⟩
    obtain ⟨P, c, w2, hP, hP1, hP2⟩ := ih k (o ++ [⟨x, y⟩]) (x + (1 + u)) (y + u') b' w' (by omega) (by omega) (by omega) (by simp; omega) (by omega) (by omega) (by omega) (by omega) (L_riseApp h7 (by omega) (by omega) h8) (fun _ => by
      rw [List.length_append, show ((o.length + [(⟨x, y⟩ : S102)].length : Nat) : Int) - 1 = (o.length : Int) by simp, q1, q2]
      dsimp only
      omega)
    exact ⟨P, c, w2, hP, by simp at hP1; omega, hP2⟩

theorem L_shapeOf (l : List S102) (h : D_rise l) (hne : 0 < l.length) (d : Nat) : ∀ i : Int, 0 ≤ i → i + d = l.length → D_shapeFrom l d i = true := by
  induction d with
  | zero => intro i h0 h1; unfold D_shapeFrom; exact decide_eq_true (by omega)
  | succ d ih =>
    intro i h0 h1
    obtain ⟨a, b⟩ := h i h0 (by omega)
    have r := ih (i + 1) (by omega) (by omega)
    unfold D_shapeFrom
    rw [if_pos a]
    by_cases hi : i > 0
    · have := b hi
      rw [if_pos hi, if_neg (by omega), if_neg (by omega)]
      exact r
    · rw [if_neg hi]
      exact r

theorem L_paperDrawn {l : List Int} (hl : ∀ x ∈ l, 0 ≤ x ∧ x ≤ 255) {n : Nat} (hn : 10 ≤ n) : ∃ P, spec_P6Paper.f n l = some P ∧ D_curve P = true ∧ D_i16s P ∧ P.length ≤ 6 := by
  unfold spec_P6Paper.f spec_l00From.f
  simp only [Option.bind_some]
  unfold spec_l02Drawn.f
  obtain ⟨x, b, w, e1, x0, x1, b0, b1⟩ := L_pick hl (a := 0) (by omega) 0 30
  rw [e1]
  simp only [Option.bind_some]
  obtain ⟨y, b', w', e2, y0, y1, b0', b1'⟩ := L_pick hl (a := b) (by omega) w 20
  rw [e2]
  simp only [Option.bind_some]
  obtain ⟨m, b2, w2, e3, m0, m1, b02, b12⟩ := L_pick hl (a := b') (by omega) w' 6
  rw [e3]
  simp only [Option.bind_some]
  rw [L_w (x := x - 20) (by omega), L_w (x := 1 + m) (by omega)]
  obtain ⟨P, c, w3, hP, hP1, hP2⟩ := L_paperRun hl (1 + m).toNat n [] (x - 20) y b2 w2 (by omega) (by omega) (by omega) (by simp; omega) (by omega) (by omega) (by omega) (by omega) (fun j h0 h1 => by simp at h1; omega) (fun h => by simp at h)
  rw [show (((1 + m).toNat : Nat) : Int) = 1 + m by omega] at hP
  rw [hP]
  simp only [List.length_nil, Nat.zero_add] at hP1
  refine ⟨P, rfl, ?_, ?_, by omega⟩
  · unfold D_curve D_shape
    rw [L_shapeOf P hP2 (by omega) P.length 0 (by omega) (by omega), Bool.true_and]
    exact decide_eq_true (by omega)
  · intro q hq
    obtain ⟨j, hj, rfl⟩ := List.getElem_of_mem hq
    obtain ⟨hi, e⟩ := L_rdP (l := P) (i := (j : Int)) (by omega) (by omega)
    have h := (hP2 j (by omega) (by omega)).1
    unfold D_px D_py at h
    rw [e] at h
    simp only [Int.toNat_natCast] at h
    omega

theorem L_wrapU (x : Int) : 0 ≤ IntKind.u64.wrap x ∧ IntKind.u64.wrap x < 18446744073709551616 := by
  rw [IntKind.wrap_u64]; omega

theorem L_orU (a b : Int) : 0 ≤ Go.bits .or .u64 a b ∧ Go.bits .or .u64 a b < 18446744073709551616 := by
  have h := L_wrapU ((BitVec.ofInt 64 a ||| BitVec.ofInt 64 b).toNat : Int)
  exact h

theorem L_maskRow (x0 x2 x3 y : Int) (h2 : x2 ≤ 50) (e : Nat) : ∀ (k : Nat) (m x : Int), -100 ≤ x → x + e = x2 + 1 → e < k → (0 ≤ m ∧ m < 18446744073709551616) → ∃ m', spec_MaskOf.l1 k x0 x2 x3 m y x = spec_MaskOf.l0 (k - 1 - e) x0 x2 x3 m' (wrap64 (y + 1)) ∧ 0 ≤ m' ∧ m' < 18446744073709551616 := by
  induction e with
  | zero =>
    intro k m x hx h1 hk hm
    obtain ⟨k, rfl⟩ : ∃ q, k = q + 1 := ⟨k - 1, by omega⟩
    simp only [spec_MaskOf.l1]
    rw [if_neg (by omega)]
    exact ⟨m, rfl, hm⟩
  | succ e ih =>
    intro k m x hx h1 hk hm
    obtain ⟨k, rfl⟩ : ∃ q, k = q + 1 := ⟨k - 1, by omega⟩
    simp only [spec_MaskOf.l1]
    unfold spec_l03Bit.f
    rw [if_pos (by omega), if_pos (L_wrapU _).1]
    simp only [Option.bind_some]
    rw [L_w (x := x + 1) (by omega)]
    obtain ⟨m', e1, e2⟩ := ih k (Go.bits .or .u64 m (shl .u64 1 (IntKind.u64.wrap (wrap64 (x + (wrap64 (8 * y))))))) (x + 1) (by omega) (by omega) (by omega) (L_orU _ _)
    refine ⟨m', ?_, e2⟩
    rw [e1]
    congr 1
    omega

theorem L_maskRows (x0 x2 x3 : Int) (h0 : 0 ≤ x0) (h1 : x0 ≤ x2) (h2 : x2 ≤ 7) (e : Nat) : ∀ (k : Nat) (m y : Int), (0 ≤ y ∧ y ≤ 100) → y + e = x3 + 1 → x3 ≤ 7 → 12 * e < k → (0 ≤ m ∧ m < 18446744073709551616) → ∃ r, spec_MaskOf.l0 k x0 x2 x3 m y = some (r, 0) ∧ 0 ≤ r ∧ r < 18446744073709551616 := by
  induction e with
  | zero =>
    intro k m y hy h3 h4 hk hm
    obtain ⟨k, rfl⟩ : ∃ q, k = q + 1 := ⟨k - 1, by omega⟩
    simp only [spec_MaskOf.l0]
    rw [if_neg (by omega)]
    exact ⟨m, rfl, hm⟩
  | succ e ih =>
    intro k m y hy h3 h4 hk hm
    obtain ⟨k, rfl⟩ : ∃ q, k = q + 1 := ⟨k - 1, by omega⟩
    simp only [spec_MaskOf.l0]
    rw [if_pos (by omega)]
    obtain ⟨m', e1, e2⟩ := L_maskRow x0 x2 x3 y (by omega) (x2 + 1 - x0).toNat k m x0 (by omega) (by omega) (by omega) hm
    rw [e1, L_w (x := y + 1) (by omega)]
    exact ih _ m' (y + 1) (by omega) (by omega) h4 (by omega) e2

theorem L_shlU (x y : Int) : 0 ≤ shl .u64 x y ∧ shl .u64 x y < 18446744073709551616 := by
  unfold shl
  exact L_wrapU _

theorem L_maskDrawn {l : List Int} (hl : ∀ x ∈ l, 0 ≤ x ∧ x ≤ 255) {n : Nat} (hn : 200 ≤ n) {a : Int} (ha : 0 ≤ a ∧ a ≤ 4611686018427386000) (z : Int) : ∃ m b w, spec_l03Mask.f n l a z = some (m, b, w) ∧ (0 ≤ m ∧ m < 18446744073709551616) ∧ a ≤ b ∧ b ≤ a + 20 := by
  unfold spec_l03Mask.f
  obtain ⟨c, b, w, e1, c0, c1, b0, b1⟩ := L_pick hl (a := a) (by omega) z 4
  rw [e1]
  simp only [Option.bind_some]
  by_cases h0 : c = 0
  · rw [if_pos h0]; exact ⟨_, _, _, rfl, by omega, by omega, by omega⟩
  · rw [if_neg h0]
    by_cases h1 : c = 1
    · rw [if_pos h1]
      obtain ⟨x, b2, w2, e2, x0, x1, b02, b12⟩ := L_pick hl (a := b) (by omega) w 8
      rw [e2]
      simp only [Option.bind_some]
      obtain ⟨y, b3, w3, e3, y0, y1, b03, b13⟩ := L_pick hl (a := b2) (by omega) w2 8
      rw [e3]
      simp only [Option.bind_some]
      rw [L_w (x := 8 - x) (by omega), L_w (x := 8 - y) (by omega)]
      obtain ⟨p, b4, w4, e4, p0, p1, b04, b14⟩ := L_pick hl (a := b3) (by omega) w3 (8 - x)
      rw [e4]
      simp only [Option.bind_some]
      obtain ⟨q, b5, w5, e5, q0, q1, b05, b15⟩ := L_pick hl (a := b4) (by omega) w4 (8 - y)
      rw [e5]
      simp only [Option.bind_some]
      rw [L_w (x := x + p) (by omega), L_w (x := y + q) (by omega)]
      obtain ⟨k, rfl⟩ : ∃ k, n = k + 1 := ⟨n - 1, by omega⟩
      unfold spec_MaskOf.f spec_l03Place.f
      simp only [L_in, Option.bind_some, decide_eq_true_eq]
      rw [if_pos (by omega), if_pos (by omega), if_pos (by omega), if_pos (by omega), if_neg (by omega), decide_eq_false (by omega)]
      obtain ⟨r, hr, hr2⟩ := L_maskRows x (x + p) (y + q) (by omega) (by omega) (by omega) (q + 1).toNat k 0 y (by omega) (by omega) (by omega) (by omega) (by omega)
      simp only [spec_MaskOf.j0, Bool.false_eq_true, if_false]
      rw [hr]
      exact ⟨r, b5, w5, rfl, hr2, by omega, by omega⟩
    · rw [if_neg h1]
      by_cases h2 : c = 2
      · rw [if_pos h2]
        obtain ⟨x, b2, w2, e2, x0, x1, b02, b12⟩ := L_pick hl (a := b) (by omega) w 64
        rw [e2]
        simp only [Option.bind_some]
        rw [if_pos (L_wrapU _).1]
        exact ⟨_, _, _, rfl, L_shlU _ _, by omega, by omega⟩
      · rw [if_neg h2]
        obtain ⟨x, b2, w2, e2, x0, x1, b02, b12⟩ := L_pick hl (a := b) (by omega) w 1073741824
        rw [e2]
        simp only [Option.bind_some]
        obtain ⟨y, b3, w3, e3, y0, y1, b03, b13⟩ := L_pick hl (a := b2) (by omega) w2 1073741824
        rw [e3]
        simp only [Option.bind_some]
        exact ⟨_, _, _, rfl, L_orU _ _, by omega, by omega⟩

theorem L_stepsRun {l : List Int} (hl : ∀ x ∈ l, 0 ≤ x ∧ x ≤ 255) (e : Nat) : ∀ (k : Nat) (o : List S55) (a z : Int), e + 200 < k → 0 ≤ a → a + 30 * e ≤ 4611686018427386000 → o.length + e ≤ 1000 → (∀ x ∈ o, (0 ≤ x.f0 ∧ x.f0 < 18446744073709551616) ∧ 0 ≤ x.f1 ∧ x.f1 ≤ 19) →
    ∃ A, spec_P6Steps.l0 k o (e : Int) l a z = some A ∧ A.length = o.length + e ∧ ∀ x ∈ A, (0 ≤ x.f0 ∧ x.f0 < 18446744073709551616) ∧ 0 ≤ x.f1 ∧ x.f1 ≤ 19 := by
  induction e with
  | zero =>
    intro k o a z hk h0 h1 h2 h3
    obtain ⟨k, rfl⟩ : ∃ q, k = q + 1 := ⟨k - 1, by omega⟩
    simp only [spec_P6Steps.l0]
    rw [if_neg (by omega)]
    exact ⟨o, rfl, by omega, h3⟩
  | succ e ih =>
    intro k o a z hk h0 h1 h2 h3
    obtain ⟨k, rfl⟩ : ∃ q, k = q + 1 := ⟨k - 1, by omega⟩
    simp only [spec_P6Steps.l0]
    obtain ⟨m, b, y, e1, m0, b0, b1⟩ := L_maskDrawn hl (n := k) (by omega) (a := a) (by omega) z
    rw [if_pos (by omega), e1]
    simp only [Option.bind_some]
    obtain ⟨x', b', y', e2, x0', x1', b0', b1'⟩ := L_pick hl (a := b) (by omega) y 20
    rw [e2]
    simp only [Option.bind_some]
    rw [if_pos (by omega), L_w8 (x := x') (by omega), show ((e + 1 : Nat) : Int) - 1 = (e : Int) by omega, L_w (x := (e : Int)) (by omega)]
    obtain ⟨A, hA, hA1, hA2⟩ := ih k (o ++ [⟨m, x'⟩]) b' y' (by omega) (by omega) (by omega) (by simp; omega) (fun q hq => by
      rcases List.mem_append.1 hq with h | h
      · exact h3 q h
      · obtain rfl := List.mem_singleton.1 h; exact ⟨m0, x0', by show x' ≤ 19; omega⟩)
    exact ⟨A, hA, by simp at hA1; omega, hA2⟩

theorem L_p6Steps {l : List Int} (hl : ∀ x ∈ l, 0 ≤ x ∧ x ≤ 255) {n : Nat} (hn : 300 ≤ n) : ∃ A, spec_P6Steps.f n l = some A ∧ A.length ≤ 4 ∧ ∀ x ∈ A, (0 ≤ x.f0 ∧ x.f0 < 18446744073709551616) ∧ 0 ≤ x.f1 ∧ x.f1 ≤ 19 := by
  unfold spec_P6Steps.f spec_l00From.f
  simp only [Option.bind_some]
  obtain ⟨x, b, y, e1, x0, x1, b0, b1⟩ := L_pick hl (a := 0) (by omega) 0 5
  rw [e1]
  simp only [Option.bind_some]
  obtain ⟨A, hA, hA1, hA2⟩ := L_stepsRun hl x.toNat n [] b y (by omega) (by omega) (by omega) (by simp; omega) (by simp)
  rw [show ((x.toNat : Nat) : Int) = x by omega] at hA
  exact ⟨A, hA, by simp at hA1; omega, hA2⟩

theorem L_xorU (a b : Int) : 0 ≤ Go.bits .xor .u64 a b ∧ Go.bits .xor .u64 a b < 18446744073709551616 := by
  have h := L_wrapU ((BitVec.ofInt 64 a ^^^ BitVec.ofInt 64 b).toNat : Int)
  exact h

theorem L_maskedRun {l : List Int} (hl : ∀ x ∈ l, 0 ≤ x ∧ x ≤ 255) (e : Nat) : ∀ (k : Nat) (m a z : Int), e + 200 < k → 0 ≤ a → a + 30 * e ≤ 4611686018427386000 → e ≤ 100 → (0 ≤ m ∧ m < 18446744073709551616) → ∃ r b w, spec_l07Masked.l0 k m (e : Int) l a z = some (r, b, w) ∧ 0 ≤ r ∧ r < 18446744073709551616 := by
  induction e with
  | zero =>
    intro k m a z hk h0 h1 h2 hm
    obtain ⟨k, rfl⟩ : ∃ q, k = q + 1 := ⟨k - 1, by omega⟩
    simp only [spec_l07Masked.l0]
    rw [if_neg (by omega)]
    exact ⟨m, a, z, rfl, hm⟩
  | succ e ih =>
    intro k m a z hk h0 h1 h2 hm
    obtain ⟨k, rfl⟩ : ∃ q, k = q + 1 := ⟨k - 1, by omega⟩
    simp only [spec_l07Masked.l0]
    obtain ⟨m', b, y, e1, m0, b0, b1⟩ := L_maskDrawn hl (n := k) (by omega) (a := a) (by omega) z
    rw [if_pos (by omega), e1]
    simp only [Option.bind_some]
    rw [show ((e + 1 : Nat) : Int) - 1 = (e : Int) by omega, L_w (x := (e : Int)) (by omega)]
    exact ih k _ b y (by omega) (by omega) (by omega) (by omega) (L_xorU _ _)

theorem L_p6Mask {l : List Int} (hl : ∀ x ∈ l, 0 ≤ x ∧ x ≤ 255) {n : Nat} (hn : 300 ≤ n) : ∃ m, spec_P6Mask.f n l = some m ∧ 0 ≤ m ∧ m < 18446744073709551616 := by
  unfold spec_P6Mask.f spec_l00From.f
  simp only [Option.bind_some]
  unfold spec_l07Masked.f
  obtain ⟨m, b, y, e1, m0, b0, b1⟩ := L_maskDrawn hl (n := n) (by omega) (a := 0) (by omega) 0
  rw [e1]
  simp only [Option.bind_some]
  obtain ⟨x, b2, y2, e2, x0, x1, b02, b12⟩ := L_pick hl (a := b) (by omega) y 4
  rw [e2]
  simp only [Option.bind_some]
  obtain ⟨r, b3, w3, hr, hr2⟩ := L_maskedRun hl x.toNat n m b2 y2 (by omega) (by omega) (by omega) (by omega) m0
  rw [show ((x.toNat : Nat) : Int) = x by omega] at hr
  rw [hr]
  exact ⟨r, rfl, hr2⟩

theorem L_p6Pick {l : List Int} (hl : ∀ x ∈ l, 0 ≤ x ∧ x ≤ 255) (n : Int) (hn : 1 ≤ n) : ∃ r, spec_P6Pick.f l n = some r ∧ 0 ≤ r ∧ r < n := by
  obtain ⟨x, b, y, e, h0, h1, _, _⟩ := L_pick hl (a := 0) (by omega) 0 n
  refine ⟨x, ?_, h0, by omega⟩
  unfold spec_P6Pick.f spec_l00From.f
  simp only [Option.bind_some]
  rw [e]
  rfl


theorem L_tmvAll : ∀ n : Nat, n < 37 → 1000 ≤ tmv n ∧ tmv n ≤ 4096000 := by decide

theorem L_tmv {k : Int} (h : 0 ≤ k ∧ k ≤ 36) : 1000 ≤ tmv k ∧ tmv k ≤ 4096000 := by
  obtain ⟨n, rfl⟩ : ∃ n : Nat, k = n := ⟨k.toNat, by omega⟩
  exact L_tmvAll n (by omega)

-- L_paperDrawn L_p6Steps L_p6Mask L_p6Pick L_tmv
end Go.Proofs.YtjonocgmofcieaaGreatDoor.PL
namespace Go.Proofs.YtjonocgmofcieaaGreatDoor.PL
open Go.RowKit Go.Proofs.YtjonocgmofcieaaGreatDoor.Q Go.Proofs.YtjonocgmofcieaaGreatDoorW.PrintWords Go.Proofs.YtjonocgmofcieaaGreatDoorW.PrintLast Go.Proofs.YtjonocgmofcieaaGreatDoorW.PrintMore
set_option linter.unusedVariables false
set_option linter.unusedSimpArgs false
def D_u64s (l : List S55) : Prop := ∀ s ∈ l, 0 ≤ s.f0 ∧ s.f0 < 18446744073709551616

def D_okLog (P : List S102) (S : List S55) : Prop := D_curve P = true ∧ D_steps S ∧ D_u64s S

def D_mk (x : List UInt8) : ByteArray := ⟨x.toArray⟩

/-- the text of lines that end in b -/
def D_lined (b : UInt8) : List (List UInt8) → List UInt8
  | [] => []
  | x :: t => x ++ b :: D_lined b t

def D_glue (b : UInt8) : List (List UInt8) → List UInt8
  | [] => []
  | [x] => x
  | x :: y :: t => x ++ b :: D_glue b (y :: t)

def D_ptL (p : S102) : List UInt8 := Lib.itoa p.f0 ++ [58] ++ Lib.itoa p.f1

def D_crv (P : List S102) : List UInt8 := D_glue 32 (P.map D_ptL)

def D_hexC (d : Nat) : UInt8 := UInt8.ofNat (D_hexDig (d : Int)).toNat

/-- the last n digits of u to the base 16 -/
def D_hexN (u : Nat) : Nat → List UInt8
  | 0 => []
  | n + 1 => D_hexC (u / 16 ^ n % 16) :: D_hexN u n

/-- the line of a step -/
def D_sl (s : S55) : List UInt8 := D_hexN s.f0.toNat 16 ++ 32 :: Lib.decDigits s.f1.toNat

def D_TL (P : List S102) (S : List S55) : List UInt8 := D_lined 10 (D_crv P :: S.map D_sl)

theorem L_lineSz (s : ByteArray) (hs : s.size ≤ 1048576) : ((D_readLines33 s).headD ⟨#[]⟩).size ≤ 1048576 := by
  cases hl : D_readLines33 s with
  | nil => exact absurd hl (readl_ne s)
  | cons x r =>
    have := readc_size ⟨#[10]⟩ (min 33 (s.size + 1) - 1) s x (by unfold D_readLines33 at hl; rw [hl]; simp)
    simp only [List.headD_cons]
    omega

theorem L_linedLen (b : UInt8) : ∀ L : List (List UInt8), L.length ≤ (D_lined b L).length
  | [] => by simp
  | x :: t => by
    have := L_linedLen b t
    rw [D_lined, List.length_append, List.length_cons, List.length_cons]
    omega

theorem L_mkList (s : ByteArray) : D_mk s.data.toList = s := by
  obtain ⟨⟨l⟩⟩ := s
  rfl

theorem L_mapMk : ∀ (L : List ByteArray) (M : List (List UInt8)), L.map (·.data.toList) = M → L = M.map D_mk
  | [], M, h => by subst h; rfl
  | s :: L, M, h => by
    subst h
    rw [List.map_cons, List.map_cons, L_mkList, ← L_mapMk L _ rfl]

theorem L_index1 (b : UInt8) : ∀ (x r : List UInt8), b ∉ x → Lib.index (x ++ b :: r) [b] = (x.length : Int)
  | [], r, _ => by simp [Lib.index, List.isPrefixOf]
  | c :: x, r, h => by
    have hc : ¬ b = c := fun e => h (by rw [e]; simp)
    have ih := L_index1 b x r (fun e => h (List.mem_cons_of_mem _ e))
    rw [List.cons_append, Lib.index, if_neg (by simp [List.isPrefixOf, hc]), ih, if_neg (by simp)]
    simp

theorem L_splitK (b : UInt8) : ∀ (L : List (List UInt8)) (k : Nat), (∀ x ∈ L, b ∉ x) → L.length ≤ k → Lib.splitK [b] 0 k (D_lined b L) = L ++ [[]]
  | [], k, _, _ => by
    cases k with
    | zero => rfl
    | succ k => simp [Lib.splitK, D_lined, Lib.index]
  | x :: t, k, h, hk => by
    obtain ⟨k, rfl⟩ : ∃ m, k = m + 1 := ⟨k - 1, by simp only [List.length_cons] at hk; omega⟩
    rw [D_lined, Lib.splitK, L_index1 b x _ (h x (by simp)), if_neg (by simp)]
    have e1 : (x ++ b :: D_lined b t).take ((x.length : Int).toNat + 0) = x := by simp
    have e2 : (x ++ b :: D_lined b t).drop ((x.length : Int).toNat + ([b] : List UInt8).length) = D_lined b t := by
      rw [Int.toNat_natCast, List.drop_append, List.drop_eq_nil_of_le (by simp)]
      simp
    rw [e1, e2, L_splitK b t k (fun y hy => h y (List.mem_cons_of_mem _ hy)) (by simp only [List.length_cons] at hk; omega)]
    rfl

theorem L_glueNo {b c : UInt8} (hbc : b ≠ c) : ∀ (L : List (List UInt8)), (∀ x ∈ L, b ∉ x) → b ∉ D_glue c L
  | [], _ => by simp [D_glue]
  | [x], h => by rw [D_glue]; exact h x (by simp)
  | x :: y :: t, h => by
    rw [D_glue]
    simp only [List.mem_append, List.mem_cons, not_or]
    exact ⟨h x (by simp), hbc, L_glueNo hbc (y :: t) (fun z hz => h z (List.mem_cons_of_mem _ hz))⟩

theorem L_decDig : ∀ (n : Nat), ∀ c ∈ Lib.decDigits n, 48 ≤ c.toNat ∧ c.toNat ≤ 57 := by
  intro n
  induction n using Nat.strongRecOn with
  | _ n ih =>
    intro c hc
    rw [Lib.decDigits] at hc
    split at hc
    · rename_i h
      rw [List.mem_singleton] at hc
      rw [hc, UInt8.toNat_ofNat']
      omega
    · rename_i h
      rcases List.mem_append.1 hc with hc | hc
      · exact ih (n / 10) (by omega) c hc
      · rw [List.mem_singleton] at hc
        rw [hc, UInt8.toNat_ofNat']
        omega

theorem L_decNo {n : Nat} {b : UInt8} (h : b.toNat < 48 ∨ 57 < b.toNat) : b ∉ Lib.decDigits n := fun e => by
  have := L_decDig n b e
  omega

theorem L_itoaNo {v : Int} {b : UInt8} (h : (b.toNat < 48 ∨ 57 < b.toNat) ∧ b.toNat ≠ 45) : b ∉ Lib.itoa v := by
  unfold Lib.itoa
  split
  · intro e
    rcases List.mem_cons.1 e with e | e
    · rw [e] at h
      exact h.2 rfl
    · exact L_decNo h.1 e
  · exact L_decNo h.1

theorem L_ptNo {p : S102} {b : UInt8} (h : (b.toNat < 48 ∨ 57 < b.toNat) ∧ b.toNat ≠ 45 ∧ b.toNat ≠ 58) : b ∉ D_ptL p := by
  unfold D_ptL
  simp only [List.mem_append, List.mem_singleton, not_or]
  exact ⟨⟨L_itoaNo ⟨h.1, h.2.1⟩, fun e => h.2.2 (by rw [e]; rfl)⟩, L_itoaNo ⟨h.1, h.2.1⟩⟩

theorem L_ptsNo {P : List S102} {b : UInt8} (h : (b.toNat < 48 ∨ 57 < b.toNat) ∧ b.toNat ≠ 45 ∧ b.toNat ≠ 58) : ∀ x ∈ P.map D_ptL, b ∉ x := by
  intro x hx
  obtain ⟨p, _, rfl⟩ := List.mem_map.1 hx
  exact L_ptNo h

theorem L_crvNo {P : List S102} : (10 : UInt8) ∉ D_crv P := L_glueNo (by decide) _ (L_ptsNo ⟨Or.inl (by decide), by decide, by decide⟩)

def D_nib (c : UInt8) : Option Nat := if 48 ≤ c.toNat ∧ c.toNat ≤ 57 then some (c.toNat - 48) else if 97 ≤ c.toNat ∧ c.toNat ≤ 102 then some (c.toNat - 87) else none

theorem L_nibC {d : Nat} (h : d < 16) : D_nib (D_hexC d) = some d ∧ (∀ acc r, D_hexU acc (D_hexC d :: r) = if 1152921504606846976 ≤ acc then some none else D_hexU (acc * 16 + d) r) ∧ D_hexC d ≠ 32 ∧ D_hexC d ≠ 10 := by
  obtain rfl | rfl | rfl | rfl | rfl | rfl | rfl | rfl | rfl | rfl | rfl | rfl | rfl | rfl | rfl | rfl : d = 0 ∨ d = 1 ∨ d = 2 ∨ d = 3 ∨ d = 4 ∨ d = 5 ∨ d = 6 ∨ d = 7 ∨ d = 8 ∨ d = 9 ∨ d = 10 ∨ d = 11 ∨ d = 12 ∨ d = 13 ∨ d = 14 ∨ d = 15 := by omega
  all_goals exact ⟨by decide +kernel, fun _ _ => rfl, by decide +kernel, by decide +kernel⟩

theorem L_hexNNo (u : Nat) : ∀ n, (32 : UInt8) ∉ D_hexN u n ∧ (10 : UInt8) ∉ D_hexN u n
  | 0 => by simp [D_hexN]
  | n + 1 => by
    have h1 := L_hexNNo u n
    have h2 := L_nibC (d := u / 16 ^ n % 16) (by omega)
    rw [D_hexN]
    simp only [List.mem_cons, not_or]
    exact ⟨⟨fun e => h2.2.2.1 e.symm, h1.1⟩, fun e => h2.2.2.2 e.symm, h1.2⟩

theorem L_slNo {s : S55} : (10 : UInt8) ∉ D_sl s := by
  unfold D_sl
  simp only [List.mem_append, List.mem_cons, not_or]
  exact ⟨(L_hexNNo _ 16).2, by decide, L_decNo (Or.inl (by decide))⟩

theorem L_tlNo {P : List S102} {S : List S55} : ∀ x ∈ D_crv P :: S.map D_sl, (10 : UInt8) ∉ x := by
  intro x hx
  rcases List.mem_cons.1 hx with rfl | hx
  · exact L_crvNo
  · obtain ⟨s, _, rfl⟩ := List.mem_map.1 hx
    exact L_slNo

theorem L_lines33 (s : ByteArray) (P : List S102) (S : List S55) (h : D_okLog P S) (e : s.data.toList = D_TL P S) : D_readLines33 s = (D_crv P :: (S.map D_sl ++ [[]])).map D_mk := by
  have hsz := Lib.size_eq s
  have hl2 := h.2.1.2
  have hlen := L_linedLen 10 (D_crv P :: S.map D_sl)
  rw [List.length_cons, List.length_map] at hlen
  unfold D_readLines33
  refine L_mapMk _ _ ?_
  rw [Lib.splitB_data, e, show (⟨#[10]⟩ : ByteArray).data.toList = [10] from rfl]
  unfold D_TL at e ⊢
  rw [e] at hsz
  exact L_splitK 10 _ _ L_tlNo (by rw [List.length_cons, List.length_map]; omega)

theorem L_w16b (x : Int) : -32768 ≤ IntKind.i16.wrap x ∧ IntKind.i16.wrap x ≤ 32767 := by
  simp only [IntKind.wrap, IntKind.bits, IntKind.signed]
  simp
  omega

theorem L_readPtsB : ∀ (L : List ByteArray) (o o' : List S102), D_readPts L o = some o' → D_i16s o → D_i16s o' ∧ o'.length = o.length + L.length
  | [], o, o', h, hB => by cases h; exact ⟨hB, by simp⟩
  | s :: L, o, o', h, hB => by
    rw [D_readPts] at h
    split at h
    · rename_i x hx
      obtain ⟨h1, h2⟩ := L_readPtsB L _ o' h (by
        intro y hy
        rcases List.mem_append.1 hy with hy | hy
        · exact hB y hy
        · rw [List.mem_singleton] at hy
          subst hy
          unfold D_readPoint at hx
          split at hx
          · split at hx
            · cases hx
              exact ⟨L_w16b _, L_w16b _⟩
            · cases hx
          · cases hx)
      refine ⟨h1, ?_⟩
      rw [h2, List.length_append]
      simp only [List.length_cons, List.length_nil]
      omega
    · cases h

def D_okPt (l : List S102) : Prop := ∀ p ∈ l, (-200 ≤ p.f0 ∧ p.f0 ≤ 200) ∧ 0 ≤ p.f1 ∧ p.f1 ≤ 400

theorem L_decLen : ∀ (d n : Nat), n < 10 ^ d → 1 ≤ d → (Lib.decDigits n).length ≤ d
  | 0, _, _, h => absurd h (by omega)
  | d + 1, n, h, _ => by
    rw [Lib.decDigits]
    split
    · simp
    · rename_i hn
      have hp : 10 ^ (d + 1) = 10 ^ d * 10 := Nat.pow_succ ..
      have hd : 1 ≤ d := by
        cases d with
        | zero => simp at h; omega
        | succ d => omega
      have := L_decLen d (n / 10) (by omega) hd
      rw [List.length_append]
      simp only [List.length_cons, List.length_nil]
      omega

theorem L_itoaLen {n : Int} (h0 : -1000000 < n) (h : n < 1000000) : (Lib.itoa n).length ≤ 8 := by
  unfold Lib.itoa
  split
  · have := L_decLen 6 n.natAbs (by omega) (by omega)
    rw [List.length_cons]
    omega
  · have := L_decLen 6 n.toNat (by omega) (by omega)
    omega

theorem L_ptLen {p : S102} (h : (-200 ≤ p.f0 ∧ p.f0 ≤ 200) ∧ 0 ≤ p.f1 ∧ p.f1 ≤ 400) : (D_ptL p).length ≤ 17 := by
  have a := L_itoaLen (n := p.f0) (by omega) (by omega)
  have b := L_itoaLen (n := p.f1) (by omega) (by omega)
  unfold D_ptL
  simp only [List.length_append, List.length_cons, List.length_nil]
  omega

theorem L_joinTailLen (r : List S102) (h : D_okPt r) : (Lib.joinTail [32] (r.map D_ptL)).length ≤ 18 * r.length := by
  induction r with
  | nil => simp [Lib.joinTail]
  | cons p r ih =>
    have a := L_ptLen (h p (by simp))
    have b := ih (fun q hq => h q (by simp [hq]))
    simp only [Lib.joinTail, List.map_cons, List.flatten_cons, List.length_append, List.length_cons, List.length_nil] at b ⊢
    omega

theorem L_joinLen (l : List S102) (hl : D_okPt l) (hn : l.length ≤ 12) : (Lib.join (l.map D_ptL) [32]).length ≤ 300 := by
  cases l with
  | nil => simp [Lib.join_nil]
  | cons p r =>
    have hpl := L_ptLen (hl p (by simp))
    have hr := L_joinTailLen r (fun q hq => hl q (by simp [hq]))
    simp only [List.length_cons] at hn
    rw [List.map_cons, Lib.join_cons, List.length_append]
    omega

def D_mkPt (p : S102) : ByteArray := ⟨(D_ptL p).toArray⟩

theorem L_implItoa {n : Int} (h0 : -1000000 < n) (h : n < 1000000) : impl_decimal.f n = some ⟨(Lib.itoa n).toArray⟩ := by
  unfold impl_decimal.f
  rw [if_pos (by omega), if_pos (by omega)]

theorem L_mkSize (a : List UInt8) : (⟨a.toArray⟩ : ByteArray).size = a.length := by simp [ByteArray.size]

theorem L_mk (a b : List UInt8) : (⟨a.toArray⟩ : ByteArray) ++ (⟨b.toArray⟩ : ByteArray) = ⟨(a ++ b).toArray⟩ := by
  apply ByteArray.ext
  simp [ByteArray.data_append]

theorem L_implCurveLoop (l : List S102) (hl : D_okPt l) (hn : l.length ≤ 12) (d : Nat) : ∀ (k : Nat) (W : List ByteArray) (i : Int), 0 ≤ i → i + d = l.length → d < k → (W.length : Int) = i →
    (Lib.join ((W ++ (l.drop i.toNat).map D_mkPt).map (·.data.toList)) [32]).length ≤ 1000 →
    impl_curveText.l0 k W l (l.length : Int) i = some ⟨(Lib.join ((W ++ (l.drop i.toNat).map D_mkPt).map (·.data.toList)) [32]).toArray⟩ := by
  induction d with
  | zero =>
    intro k W i h0 hd hk hW hj
    obtain ⟨k, rfl⟩ : ∃ m, k = m + 1 := ⟨k - 1, by omega⟩
    rw [List.drop_eq_nil_of_le (by omega), List.map_nil, List.append_nil] at hj ⊢
    rw [impl_curveText.l0, if_neg (by omega)]
    unfold strings_Join.f
    rw [show (⟨#[32]⟩ : ByteArray).data.toList = [32] from rfl, if_pos (by omega), if_pos (by omega)]
    rfl
  | succ d ih =>
    intro k W i h0 hd hk hW hj
    obtain ⟨k, rfl⟩ : ∃ m, k = m + 1 := ⟨k - 1, by omega⟩
    obtain ⟨hi, e⟩ := L_rdP (l := l) (i := i) (by omega) (by omega)
    have h1 := hl _ (List.getElem_mem hi)
    rw [← e] at h1
    have hpl := L_ptLen h1
    have s1 := L_itoaLen (n := (rd_T102 l i).f0) (by omega) (by omega)
    have s2 := L_itoaLen (n := (rd_T102 l i).f1) (by omega) (by omega)
    have ew : W ++ (l.drop i.toNat).map D_mkPt = (W ++ [D_mkPt (rd_T102 l i)]) ++ (l.drop (i + 1).toNat).map D_mkPt := by
      rw [List.drop_eq_getElem_cons hi, ← e, show (i + 1).toNat = i.toNat + 1 by omega]
      simp
    rw [ew] at hj ⊢
    rw [impl_curveText.l0, if_pos (by omega), if_pos h0, if_pos (by omega), L_w (x := (rd_T102 l i).f0) (by omega), L_w (x := (rd_T102 l i).f1) (by omega), L_implItoa (n := (rd_T102 l i).f0) (by omega) (by omega), L_implItoa (n := (rd_T102 l i).f1) (by omega) (by omega)]
    simp only [Option.bind_some]
    rw [L_mkSize, if_pos (by omega), show (⟨#[58]⟩ : ByteArray) = ⟨([58] : List UInt8).toArray⟩ from rfl, L_mk, L_mkSize, L_mkSize, if_pos (by simp only [List.length_append, List.length_cons, List.length_nil]; omega), if_pos (by omega), L_mk, L_w (x := i + 1) (by omega)]
    exact ih k _ (i + 1) (by omega) (by omega) (by omega) (by rw [List.length_append]; simp only [List.length_cons, List.length_nil]; omega) hj

theorem L_implCurveText (l : List S102) (hl : D_okPt l) (hn : l.length ≤ 12) (h1 : 1 ≤ l.length) {k : Nat} (hk : l.length + 8 ≤ k) : impl_curveText.f k l = some ⟨(Lib.join (l.map D_ptL) [32]).toArray⟩ := by
  have hb := L_joinLen l hl hn
  have e : (([] : List ByteArray) ++ (l.drop (0 : Int).toNat).map D_mkPt).map (·.data.toList) = l.map D_ptL := by
    simp [D_mkPt, Function.comp_def]
  unfold impl_curveText.f
  rw [L_implCurveLoop l hl hn l.length k [] 0 (by omega) (by omega) (by omega) rfl (by rw [e]; omega), e]

theorem L_okPt {l : List S102} (h : D_curve l = true) : D_okPt l := by
  intro p hp
  obtain ⟨j, hj, e⟩ := List.getElem_of_mem hp
  have := (L_curveFacts h).2 (j : Int) (by omega) (by omega)
  obtain ⟨hi, e2⟩ := L_rdP (l := l) (i := (j : Int)) (by omega) (by omega)
  have e3 : rd_T102 l (j : Int) = p := by rw [e2, ← e]; simp
  unfold D_px D_py at this
  rw [e3] at this
  exact this.1

theorem L_joinGlue : ∀ (L : List (List UInt8)), Lib.join L [32] = D_glue 32 L
  | [] => rfl
  | [x] => by rw [Lib.join_one, D_glue]
  | x :: y :: t => by
    have h := L_joinGlue (y :: t)
    rw [Lib.join_cons] at h ⊢
    rw [D_glue, ← h]
    simp [Lib.joinTail]

theorem L_implCurveRead (s : ByteArray) (hs : s.size ≤ 1048576) : impl_ReadCurve.f s = some (match D_readPts (D_readWords13 s) [] with | some o => if D_curve o = true ∧ s.data.toList = D_crv o then (o, 0) else ([], 5) | none => ([], 5)) := by
  have hw : (D_readWords13 s).length ≤ 13 := by
    unfold D_readWords13
    have := Lib.splitB_length_le (⟨#[32]⟩ : ByteArray) 0 (min 13 (s.size + 1) - 1) s
    omega
  unfold impl_ReadCurve.f
  rw [if_pos hs]
  cases hq : D_readPts (D_readWords13 s) [] with
  | none => rfl
  | some o =>
    obtain ⟨hB, hl⟩ := L_readPtsB _ _ _ hq (fun x hx => by simp at hx)
    simp only [List.length_nil] at hl
    simp only
    rw [L_implCurve o hB (by omega) (by omega)]
    simp only [Option.bind_some]
    by_cases h : D_curve o = true
    · have hf := (L_curveFacts h).1
      rw [if_pos h, L_implCurveText o (L_okPt h) hf.2 hf.1 (by omega)]
      simp only [Option.bind_some]
      rw [L_joinGlue, Lib.toList_data, Lib.toList_data]
      simp only [List.toList_toArray]
      by_cases h2 : s.data.toList = D_crv o
      · rw [if_pos (show D_glue 32 (o.map D_ptL) = s.data.toList from h2.symm), if_pos ⟨h, h2⟩]
      · rw [if_neg (show ¬ D_glue 32 (o.map D_ptL) = s.data.toList from fun e => h2 e.symm), if_neg (fun e => h2 e.2)]
    · rw [if_neg h, if_neg (fun e => h e.1)]

theorem L_index0 (b : UInt8) : ∀ (x : List UInt8), b ∉ x → Lib.index x [b] = -1
  | [], _ => by simp [Lib.index]
  | c :: x, h => by
    have hc : ¬ b = c := fun e => h (by rw [e]; simp)
    have ih := L_index0 b x (fun e => h (List.mem_cons_of_mem _ e))
    rw [Lib.index, if_neg (by simp [List.isPrefixOf, hc]), ih, if_pos (by simp)]

/-- pieces with b between them -/
theorem L_splitKGlue (b : UInt8) : ∀ (L : List (List UInt8)) (k : Nat), L ≠ [] → (∀ x ∈ L, b ∉ x) → L.length ≤ k + 1 → Lib.splitK [b] 0 k (D_glue b L) = L
  | [], _, h, _, _ => absurd rfl h
  | [x], k, _, h, _ => by
    cases k with
    | zero => rfl
    | succ k => rw [D_glue, Lib.splitK, L_index0 b x (h x (by simp)), if_pos (by simp)]
  | x :: y :: t, k, _, h, hk => by
    obtain ⟨k, rfl⟩ : ∃ m, k = m + 1 := ⟨k - 1, by simp only [List.length_cons] at hk; omega⟩
    rw [D_glue, Lib.splitK, L_index1 b x _ (h x (by simp)), if_neg (by simp)]
    have e1 : (x ++ b :: D_glue b (y :: t)).take ((x.length : Int).toNat + 0) = x := by simp
    have e2 : (x ++ b :: D_glue b (y :: t)).drop ((x.length : Int).toNat + ([b] : List UInt8).length) = D_glue b (y :: t) := by
      rw [Int.toNat_natCast, List.drop_append, List.drop_eq_nil_of_le (by simp)]
      simp
    rw [e1, e2, L_splitKGlue b (y :: t) k (by simp) (fun z hz => h z (List.mem_cons_of_mem _ hz)) (by simp only [List.length_cons] at hk ⊢; omega)]

theorem L_crvNe {P : List S102} (h : D_curve P = true) : P ≠ [] := by
  have := (L_curveFacts h).1
  intro e
  rw [e] at this
  simp at this

theorem L_words13 (s : ByteArray) (P : List S102) (hP : D_curve P = true) (e : s.data.toList = D_crv P) : D_readWords13 s = (P.map D_ptL).map D_mk := by
  have hsz := Lib.size_eq s
  have hl2 := (L_curveFacts hP).1
  have hlen : ∀ L : List (List UInt8), L.length ≤ (D_glue 32 L).length + 1 := by
    intro L
    induction L with
    | nil => simp
    | cons x t ih =>
      cases t with
      | nil => simp
      | cons y t =>
        rw [D_glue, List.length_append]
        simp only [List.length_cons] at ih ⊢
        omega
  have h1 := hlen (P.map D_ptL)
  unfold D_readWords13
  refine L_mapMk _ _ ?_
  rw [Lib.splitB_data, e, show (⟨#[32]⟩ : ByteArray).data.toList = [32] from rfl]
  unfold D_crv at e ⊢
  rw [e] at hsz
  rw [List.length_map] at h1
  exact L_splitKGlue 32 _ _ (by simpa using L_crvNe hP) (L_ptsNo ⟨Or.inl (by decide), by decide, by decide⟩) (by rw [List.length_map]; omega)

theorem L_cut1 (b : UInt8) (x r : List UInt8) (h : b ∉ x) : Lib.cut (x ++ b :: r) [b] = (x, r, true) := by
  unfold Lib.cut
  rw [L_index1 b x r h, if_pos (by omega)]
  have e1 : (x ++ b :: r).take ((x.length : Int).toNat) = x := by simp
  have e2 : (x ++ b :: r).drop ((x.length : Int).toNat + ([b] : List UInt8).length) = r := by
    rw [Int.toNat_natCast, List.drop_append, List.drop_eq_nil_of_le (by simp)]
    simp
  rw [e1, e2]

theorem L_mkData (x : List UInt8) : (D_mk x).data.toList = x := rfl

theorem L_decNe (n : Nat) : Lib.decDigits n ≠ [] := by
  rw [Lib.decDigits]
  split <;> simp

theorem L_parseUSnoc (M : Nat) : ∀ (l : List UInt8) (c : UInt8) (a m : Nat), Lib.parseUintM M a l = .ok m → 48 ≤ c.toNat → c.toNat ≤ 57 → m < 1844674407370955162 → m * 10 + (c.toNat - 48) ≤ M → Lib.parseUintM M a (l ++ [c]) = .ok (m * 10 + (c.toNat - 48))
  | [], c, a, m, h, h1, h2, h3, h4 => by
    simp only [Lib.parseUintM] at h
    injection h with h
    subst h
    simp only [List.nil_append, Lib.parseUintM]
    rw [if_pos ⟨h1, h2⟩, if_neg (by omega), if_neg (by omega)]
  | x :: l, c, a, m, h, h1, h2, h3, h4 => by
    rw [List.cons_append]
    simp only [Lib.parseUintM] at h ⊢
    split at h
    · rename_i hx
      rw [if_pos hx]
      split at h
      · cases h
      · rename_i h5
        rw [if_neg h5]
        split at h
        · cases h
        · rename_i h6
          rw [if_neg h6]
          exact L_parseUSnoc M l c _ m h h1 h2 h3 h4
    · cases h

theorem L_parseUDec (M n : Nat) (h : n ≤ M) (h2 : n < 18446744073709551616) : Lib.parseUintM M 0 (Lib.decDigits n) = .ok n := by
  induction n using Nat.strongRecOn with
  | _ n ih =>
    rw [Lib.decDigits]
    split
    · rename_i hn
      have e : (UInt8.ofNat (48 + n)).toNat = 48 + n := by rw [UInt8.toNat_ofNat']; omega
      simp only [Lib.parseUintM, e]
      rw [if_pos (by omega), if_neg (by omega), if_neg (by omega)]
      congr 1; omega
    · rename_i hn
      have e : (UInt8.ofNat (48 + n % 10)).toNat = 48 + n % 10 := by rw [UInt8.toNat_ofNat']; omega
      rw [L_parseUSnoc M _ _ 0 (n / 10) (ih (n / 10) (by omega) (by omega) (by omega)) (by omega) (by omega) (by omega) (by omega), e]
      congr 1; omega

/-- the number that digits say, behind a -/
def D_num : List UInt8 → Nat → Option Nat
  | [], a => some a
  | c :: r, a => if 48 ≤ c.toNat ∧ c.toNat ≤ 57 then D_num r (10 * a + (c.toNat - 48)) else none

theorem L_numSnoc : ∀ (l : List UInt8) (c : UInt8) (a m : Nat), D_num l a = some m → 48 ≤ c.toNat → c.toNat ≤ 57 → D_num (l ++ [c]) a = some (10 * m + (c.toNat - 48))
  | [], c, a, m, h, h1, h2 => by
    cases h
    simp only [List.nil_append, D_num]
    rw [if_pos ⟨h1, h2⟩]
  | x :: l, c, a, m, h, h1, h2 => by
    rw [D_num] at h
    split at h
    · rename_i hx
      rw [List.cons_append, D_num, if_pos hx]
      exact L_numSnoc l c _ m h h1 h2
    · cases h

theorem L_numDec (n : Nat) : D_num (Lib.decDigits n) 0 = some n := by
  induction n using Nat.strongRecOn with
  | _ n ih =>
    rw [Lib.decDigits]
    split
    · rename_i h
      have e : (UInt8.ofNat (48 + n)).toNat = 48 + n := by rw [UInt8.toNat_ofNat']; omega
      simp only [D_num, e]
      rw [if_pos (by omega)]
      congr 1; omega
    · rename_i h
      have e : (UInt8.ofNat (48 + n % 10)).toNat = 48 + n % 10 := by rw [UInt8.toNat_ofNat']; omega
      rw [L_numSnoc _ _ 0 (n / 10) (ih (n / 10) (by omega)) (by omega) (by omega), e]
      congr 1; omega

theorem L_decHead (n : Nat) : ∃ c r, Lib.decDigits n = c :: r ∧ ¬ (c.toNat = 48 ∧ r ≠ []) := by
  induction n using Nat.strongRecOn with
  | _ n ih =>
    rw [Lib.decDigits]
    split
    · exact ⟨_, [], rfl, fun h => h.2 rfl⟩
    · rename_i h
      obtain ⟨c, r, e, hz⟩ := ih (n / 10) (by omega)
      refine ⟨c, r ++ [UInt8.ofNat (48 + n % 10)], by rw [e]; rfl, fun hh => ?_⟩
      have hr : r = [] := Classical.byContradiction fun e2 => hz ⟨hh.1, e2⟩
      subst hr
      have h1 := L_numDec (n / 10)
      rw [e, D_num, hh.1] at h1
      simp only [D_num] at h1
      injection h1 with h1
      omega

theorem L_parseDec (B n : Nat) (hB : n < 2 ^ (B - 1)) (hM : 2 ^ (B - 1) ≤ 2 ^ B - 1) (h2 : n < 18446744073709551616) : Lib.parseIntB B (Lib.decDigits n) = .ok (n : Int) := by
  have hu : Lib.parseUintB B (Lib.decDigits n) = .ok n := by
    unfold Lib.parseUintB
    rw [if_neg (L_decNe n)]
    exact L_parseUDec _ n (by omega) h2
  obtain ⟨c, r, e, _⟩ := L_decHead n
  have hc := L_decDig n c (by rw [e]; simp)
  rw [e] at hu ⊢
  rw [Lib.parseIntB_plain B c r (by omega) (by omega), hu]
  simp only [Lib.signlessC]
  rw [if_neg (by omega)]

theorem L_parseItoa (B : Nat) (n : Int) (h0 : -((2 ^ (B - 1) : Nat) : Int) ≤ n) (hB : n < ((2 ^ (B - 1) : Nat) : Int)) (hM : 2 ^ (B - 1) ≤ 2 ^ B - 1) (h2 : 2 ^ (B - 1) < 18446744073709551616) : Lib.parseIntB B (Lib.itoa n) = .ok n := by
  unfold Lib.itoa
  by_cases hn : n < 0
  · have hu : Lib.parseUintB B (Lib.decDigits n.natAbs) = .ok n.natAbs := by
      unfold Lib.parseUintB
      rw [if_neg (L_decNe _)]
      exact L_parseUDec _ _ (by omega) (by omega)
    rw [if_pos hn, Lib.parseIntB_minus, hu]
    simp only [Lib.signedC]
    rw [if_neg (by omega)]
    congr 1; omega
  · rw [if_neg hn, L_parseDec B n.toNat (by omega) hM (by omega)]
    congr 1; omega

theorem L_readPoint {p : S102} (h : (-200 ≤ p.f0 ∧ p.f0 ≤ 200) ∧ 0 ≤ p.f1 ∧ p.f1 ≤ 400) : D_readPoint (D_mk (D_ptL p)) = some p := by
  have hp : (2 : Nat) ^ (16 - 1) = 32768 := by decide
  have h2 : (58 : UInt8) ∉ Lib.itoa p.f0 := L_itoaNo ⟨Or.inr (by decide), by decide⟩
  have hc : Lib.cut (D_ptL p) [58] = (Lib.itoa p.f0, Lib.itoa p.f1, true) := by
    unfold D_ptL
    rw [List.append_assoc, List.singleton_append]
    exact L_cut1 58 _ _ h2
  unfold D_readPoint
  rw [L_mkData, hc]
  simp only [L_parseItoa 16 p.f0 (by omega) (by omega) (by decide) (by decide), L_parseItoa 16 p.f1 (by omega) (by omega) (by decide) (by decide)]
  rw [L_w16 (by omega), L_w16 (by omega)]

theorem L_readPts : ∀ (P o : List S102), D_okPt P → D_readPts ((P.map D_ptL).map D_mk) o = some (o ++ P)
  | [], o, _ => by simp [D_readPts]
  | p :: P, o, h => by
    rw [List.map_cons, List.map_cons, D_readPts, L_readPoint (h p (by simp))]
    simp only
    rw [L_readPts P (o ++ [p]) (fun q hq => h q (List.mem_cons_of_mem _ hq))]
    simp

theorem L_implCurveOf (s : ByteArray) (hs : s.size ≤ 1048576) (P : List S102) (hP : D_curve P = true) (e : s.data.toList = D_crv P) : impl_ReadCurve.f s = some (P, 0) := by
  rw [L_implCurveRead s hs, L_words13 s P hP e, L_readPts P [] (L_okPt hP)]
  simp only [List.nil_append]
  rw [if_pos ⟨hP, e⟩]

theorem L_cut0 (b : UInt8) (x : List UInt8) (h : b ∉ x) : Lib.cut x [b] = (x, [], false) := by
  unfold Lib.cut
  rw [L_index0 b x h, if_neg (by omega)]

theorem L_hexUN (u : Nat) (hu : u < 18446744073709551616) : ∀ n, D_hexU (u / 16 ^ n) (D_hexN u n) = some (some u)
  | 0 => by simp [D_hexN, D_hexU]
  | n + 1 => by
    have h1 : u / 16 ^ (n + 1) = u / 16 ^ n / 16 := by rw [Nat.pow_succ, ← Nat.div_div_eq_div_mul]
    have h2 : u / 16 ^ n ≤ u := Nat.div_le_self _ _
    rw [D_hexN, (L_nibC (by omega)).2.1, if_neg (by omega), show u / 16 ^ (n + 1) * 16 + u / 16 ^ n % 16 = u / 16 ^ n by omega]
    exact L_hexUN u hu n

theorem L_hexOfN {u : Nat} (h : u < 18446744073709551616) : D_hexOf (D_hexN u 16) = some (some u) := by
  have h3 : (16 : Nat) ^ 16 = 18446744073709551616 := by decide
  have h2 := L_hexUN u h 16
  rw [h3, show u / 18446744073709551616 = 0 by omega] at h2
  unfold D_hexOf
  rw [if_neg (by rw [D_hexN]; simp), h2]

theorem L_readSteps : ∀ (S o : List S55), (∀ s ∈ S, (0 ≤ s.f0 ∧ s.f0 < 18446744073709551616) ∧ 0 ≤ s.f1 ∧ s.f1 ≤ 36) → D_readSteps ((S.map D_sl ++ [[]]).map D_mk) o = some (o ++ S)
  | [], o, _ => by
    simp only [List.map_nil, List.nil_append, List.map_cons, D_readSteps]
    rw [L_mkData, L_cut0 32 [] (by simp), if_neg (by simp)]
    simp
  | s :: S, o, h => by
    have h1 := h s (by simp)
    have hc : Lib.cut (D_sl s) [32] = (D_hexN s.f0.toNat 16, Lib.decDigits s.f1.toNat, true) := L_cut1 32 _ _ (L_hexNNo _ 16).1
    have hp : (2 : Nat) ^ (8 - 1) = 128 := by decide
    rw [List.map_cons, List.cons_append, List.map_cons, D_readSteps, L_mkData, hc, if_pos rfl]
    simp only [L_hexOfN (u := s.f0.toNat) (by omega), L_parseDec 8 s.f1.toNat (by omega) (by decide) (by omega)]
    rw [L_w8 (by omega), show ((s.f1.toNat : Nat) : Int) = s.f1 by omega, show ((s.f0.toNat : Nat) : Int) = s.f0 by omega, L_readSteps S _ (fun q hq => h q (List.mem_cons_of_mem _ hq))]
    simp

/-- a fixed number of digits to the base 16 -/
def D_hexFix : Nat → Int → List Int → List Int
  | 0, _, l => l
  | d + 1, u, l => D_hexFix d (u / 16) (D_hexDig (u % 16) :: l)

def D_stL (s : S55) : List UInt8 := (D_hexFix 16 s.f0 []).map (fun n => UInt8.ofNat n.toNat) ++ [32] ++ Lib.itoa s.f1 ++ [10]

theorem L_hexFixLen : ∀ (d : Nat) (u : Int) (l : List Int), (D_hexFix d u l).length = d + l.length
  | 0, _, _ => by simp [D_hexFix]
  | d + 1, u, l => by simp only [D_hexFix]; rw [L_hexFixLen d]; simp only [List.length_cons]; omega

theorem L_stLen {s : S55} (h : 0 ≤ s.f1 ∧ s.f1 ≤ 36) : (D_stL s).length ≤ 30 := by
  have b := L_itoaLen (n := s.f1) (by omega) (by omega)
  unfold D_stL
  simp only [List.length_append, List.length_cons, List.length_nil, List.length_map, L_hexFixLen]
  omega

theorem L_hexFix0 : ∀ (d : Nat) (l : List Int), D_hexFix d 0 l = List.replicate d 48 ++ l
  | 0, _ => rfl
  | d + 1, l => by
    simp only [D_hexFix]
    rw [show (0 : Int) / 16 = 0 from rfl, show D_hexDig (0 % 16) = 48 from rfl, L_hexFix0 d, List.replicate_succ']
    simp

theorem L_hexPad : ∀ (d : Nat) (u : Int) (l : List Int), 0 ≤ u → u < 16 ^ (d + 1) → (D_hexOn d u l).length ≤ d + 1 + l.length ∧ D_hexFix (d + 1) u l = List.replicate (d + 1 + l.length - (D_hexOn d u l).length) 48 ++ D_hexOn d u l
  | 0, u, l, h0, h1 => by
    simp only [D_hexFix, D_hexOn]
    rw [show u % 16 = u by omega]
    simp only [List.length_cons]
    refine ⟨by omega, ?_⟩
    rw [show 0 + 1 + l.length - (l.length + 1) = 0 by omega]
    rfl
  | d + 1, u, l, h0, h1 => by
    have hpw : (16 : Int) ^ (d + 1 + 1) = 16 ^ (d + 1) * 16 := Int.pow_succ ..
    simp only [D_hexOn]
    by_cases h : 16 ≤ u
    · rw [if_pos h]
      obtain ⟨a, b⟩ := L_hexPad d (u / 16) (D_hexDig (u % 16) :: l) (by omega) (by omega)
      simp only [List.length_cons] at a b
      refine ⟨by omega, ?_⟩
      have e : D_hexFix (d + 1 + 1) u l = D_hexFix (d + 1) (u / 16) (D_hexDig (u % 16) :: l) := rfl
      rw [e, b, show d + 1 + (l.length + 1) = d + 1 + 1 + l.length by omega]
    · rw [if_neg h]
      have e : D_hexFix (d + 1 + 1) u l = D_hexFix (d + 1) (u / 16) (D_hexDig (u % 16) :: l) := rfl
      rw [e, show u / 16 = 0 by omega, show u % 16 = u by omega, L_hexFix0]
      simp only [List.length_cons]
      refine ⟨by omega, ?_⟩
      rw [show d + 1 + 1 + l.length - (l.length + 1) = d + 1 by omega]

theorem L_strMk (xs : List Int) : strOfNums xs = ⟨(xs.map fun n => UInt8.ofNat n.toNat).toArray⟩ := rfl

theorem L_rep (n : Nat) : Lib.repeatL [48] n = (List.replicate n (48 : Int)).map fun z => UInt8.ofNat z.toNat := by
  induction n with
  | zero => rfl
  | succ n ih => rw [Lib.repeatL, ih, List.replicate_succ]; rfl

theorem L_implHex {m : Int} (h0 : 0 ≤ m) (h1 : m < 18446744073709551616) : ∃ x y : ByteArray, strconv_FormatUint.f m 16 = some x ∧ strings_Repeat.f (⟨#[48]⟩ : ByteArray) (wrap64 (16 - (x.size : Int))) = some y ∧ y ++ x = strOfNums (D_hexFix 16 m []) ∧ x.size ≤ 16 ∧ y.size ≤ 16 := by
  obtain ⟨hl, he⟩ := L_hexPad 15 m [] h0 h1
  simp only [List.length_nil, Nat.add_zero, Nat.reduceAdd] at hl he
  have hx : (strOfNums (D_hex m)).size = (D_hexOn 15 m []).length := strOfNums_size _
  refine ⟨strOfNums (D_hex m), ⟨(Lib.repeatL [48] (16 - (D_hexOn 15 m []).length)).toArray⟩, ?_, ?_, ?_, by rw [hx]; exact hl, ?_⟩
  · unfold strconv_FormatUint.f
    rw [if_pos rfl, if_pos h0, if_pos h1]
  · unfold strings_Repeat.f
    rw [hx, L_w (x := 16 - ((D_hexOn 15 m []).length : Int)) (by omega), if_pos (by omega), if_pos (by omega), show (16 - ((D_hexOn 15 m []).length : Int)).toNat = 16 - (D_hexOn 15 m []).length by omega, show (⟨#[48]⟩ : ByteArray).size = 1 from rfl, if_pos (by omega)]
  · rw [L_strMk, L_strMk, L_mk, he, L_rep, ← List.map_append]
    rfl
  · rw [L_mkSize, Lib.repeatL_length]
    simp only [List.length_cons, List.length_nil]
    omega

theorem L_implLogLoop (l : List S55) (hl : D_steps l) (hu : D_u64s l) (d : Nat) : ∀ (k : Nat) (a : List UInt8) (i : Int), 0 ≤ i → i + d = l.length → d < k → (a.length : Int) ≤ 400 + 40 * i →
    impl_logText.l0 k ⟨a.toArray⟩ l (l.length : Int) i = some ⟨(a ++ ((l.drop i.toNat).map D_stL).flatten).toArray⟩ := by
  have hn := hl.2
  induction d with
  | zero =>
    intro k a i h0 hd hk ha
    obtain ⟨k, rfl⟩ : ∃ m, k = m + 1 := ⟨k - 1, by omega⟩
    rw [impl_logText.l0, if_neg (by omega), List.drop_eq_nil_of_le (by omega)]
    simp
  | succ d ih =>
    intro k a i h0 hd hk ha
    obtain ⟨k, rfl⟩ : ∃ m, k = m + 1 := ⟨k - 1, by omega⟩
    obtain ⟨hi, e⟩ := L_rdS (l := l) (i := i) (by omega) (by omega)
    have h1 := hl.1 _ (List.getElem_mem hi)
    have h2 := hu _ (List.getElem_mem hi)
    rw [← e] at h1 h2
    have hpl := L_stLen h1
    have hsz : (strOfNums (D_hexFix 16 (rd_T55 l i).f0 [])).size = 16 := by rw [strOfNums_size, L_hexFixLen]; rfl
    have s2 := L_itoaLen (n := (rd_T55 l i).f1) (by omega) (by omega)
    obtain ⟨x, y, ex, ey, exy, hx, hy⟩ := L_implHex h2.1 h2.2
    rw [impl_logText.l0, if_pos (by omega), if_pos (by omega), if_pos (by omega), L_w (x := (rd_T55 l i).f1) (by omega), ex]
    simp only [Option.bind_some]
    rw [ey]
    simp only [Option.bind_some]
    rw [if_pos (by omega), exy, hsz, if_pos (by omega), L_implItoa (n := (rd_T55 l i).f1) (by omega) (by omega)]
    simp only [Option.bind_some]
    have hs2 : (⟨(Lib.itoa (rd_T55 l i).f1).toArray⟩ : ByteArray).size ≤ 8 := by rw [L_mkSize]; exact s2
    have sp : (⟨#[32]⟩ : ByteArray).size = 1 := rfl
    have nl : (⟨#[10]⟩ : ByteArray).size = 1 := rfl
    have hst : ((strOfNums (D_hexFix 16 (rd_T55 l i).f0 []) ++ (⟨#[32]⟩ : ByteArray)) ++ (⟨(Lib.itoa (rd_T55 l i).f1).toArray⟩ : ByteArray)) ++ (⟨#[10]⟩ : ByteArray) = ⟨(D_stL (rd_T55 l i)).toArray⟩ := by
      rw [L_strMk, show (⟨#[32]⟩ : ByteArray) = ⟨([32] : List UInt8).toArray⟩ from rfl, show (⟨#[10]⟩ : ByteArray) = ⟨([10] : List UInt8).toArray⟩ from rfl, L_mk, L_mk, L_mk]
      rfl
    rw [if_pos (by rw [ByteArray.size_append]; omega), if_pos (by rw [ByteArray.size_append, ByteArray.size_append]; omega), hst, L_mkSize, L_mkSize, if_pos (by omega), L_mk, L_w (x := i + 1) (by omega)]
    rw [ih k _ (i + 1) (by omega) (by omega) (by omega) (by rw [List.length_append]; omega), List.drop_eq_getElem_cons hi, ← e, show (i + 1).toNat = i.toNat + 1 by omega]
    simp

/-- the digits from place n on downward -/
def D_hexDown (u : Int) : Nat → List Int
  | 0 => []
  | n + 1 => D_hexDig (u / 16 ^ n % 16) :: D_hexDown u n

theorem L_hexDown : ∀ (n : Nat) (u : Int) (l : List Int), 0 ≤ u → D_hexFix n u l = D_hexDown u n ++ l
  | 0, _, _, _ => rfl
  | n + 1, u, l, h0 => by
    have key : ∀ m : Nat, D_hexDown (u / 16) m ++ [D_hexDig (u % 16)] = D_hexDown u (m + 1) := by
      intro m
      induction m with
      | zero => simp [D_hexDown]
      | succ m ih =>
        rw [show D_hexDown u (m + 1 + 1) = D_hexDig (u / 16 ^ (m + 1) % 16) :: D_hexDown u (m + 1) from rfl, ← ih]
        rw [show D_hexDown (u / 16) (m + 1) = D_hexDig (u / 16 / 16 ^ m % 16) :: D_hexDown (u / 16) m from rfl]
        rw [show u / 16 / 16 ^ m = u / 16 ^ (m + 1) by rw [Int.ediv_ediv_of_nonneg (by omega), Int.pow_succ, Int.mul_comm]]
        rfl
    simp only [D_hexFix]
    rw [L_hexDown n _ _ (by omega), ← key n]
    simp

theorem L_hexNDown (u : Nat) : ∀ n, (D_hexDown (u : Int) n).map (fun z => UInt8.ofNat z.toNat) = D_hexN u n
  | 0 => rfl
  | n + 1 => by
    rw [D_hexDown, List.map_cons, L_hexNDown u n, D_hexN]
    unfold D_hexC
    rw [show (u : Int) / 16 ^ n % 16 = ((u / 16 ^ n % 16 : Nat) : Int) by push_cast; rfl]

theorem L_hexL (u : Nat) : (D_hexFix 16 (u : Int) []).map (fun n => UInt8.ofNat n.toNat) = D_hexN u 16 := by
  rw [L_hexDown 16 _ [] (by omega), List.append_nil, L_hexNDown]

theorem L_itoaPos {n : Int} (h : 0 ≤ n) : Lib.itoa n = Lib.decDigits n.toNat := by unfold Lib.itoa; rw [if_neg (by omega)]

theorem L_stSl {s : S55} (h : 0 ≤ s.f0) (h1 : 0 ≤ s.f1) : D_stL s = D_sl s ++ [10] := by
  unfold D_stL D_sl
  have := L_hexL s.f0.toNat
  rw [show ((s.f0.toNat : Nat) : Int) = s.f0 by omega] at this
  rw [this, L_itoaPos h1]
  simp

theorem L_logFlat (P : List S102) : ∀ (S : List S55), (∀ s ∈ S, 0 ≤ s.f0 ∧ 0 ≤ s.f1) → (S.map D_stL).flatten = D_lined 10 (S.map D_sl)
  | [], _ => rfl
  | s :: S, h => by
    have h1 := h s (by simp)
    rw [List.map_cons, List.flatten_cons, List.map_cons, D_lined, L_stSl h1.1 h1.2, L_logFlat P S (fun q hq => h q (List.mem_cons_of_mem _ hq))]
    simp

theorem L_implLogTL (P : List S102) (S : List S55) (h : D_okLog P S) {k : Nat} (hk : 60 ≤ k) : impl_logText.f k P S = some (D_mk (D_TL P S)) := by
  have hf := (L_curveFacts h.1).1
  have hb := L_joinLen P (L_okPt h.1) hf.2
  have hS := h.2.1.2
  unfold impl_logText.f
  rw [L_implCurveText P (L_okPt h.1) hf.2 hf.1 (by omega)]
  simp only [Option.bind_some]
  rw [L_mkSize, if_pos (by omega), show (⟨#[10]⟩ : ByteArray) = ⟨([10] : List UInt8).toArray⟩ from rfl, L_mk,
    L_implLogLoop S h.2.1 h.2.2 S.length k _ 0 (by omega) (by omega) (by omega) (by simp only [List.length_append, List.length_cons, List.length_nil]; omega)]
  simp only [Int.toNat_zero, List.drop_zero]
  rw [L_logFlat P S (fun s hs => ⟨(h.2.2 s hs).1, (h.2.1.1 s hs).1⟩), L_joinGlue]
  unfold D_TL D_crv D_mk
  rw [D_lined]
  simp

theorem L_mkToList (x : List UInt8) : (D_mk x).toList = x := by rw [Lib.toList_data]; rfl

theorem L_implLogOf (s : ByteArray) (hs : s.size ≤ 1048576) (P : List S102) (S : List S55) (h : D_okLog P S) (e : s.data.toList = D_TL P S) : impl_ReadLog.f s = some (P, S, 0) := by
  have hz := L_lineSz s hs
  have hS : ∀ s ∈ S, (0 ≤ s.f0 ∧ s.f0 < 18446744073709551616) ∧ 0 ≤ s.f1 ∧ s.f1 ≤ 36 := fun s hs => ⟨h.2.2 s hs, h.2.1.1 s hs⟩
  have hB : D_i8s S := fun x hx => by have := (hS x hx).2; omega
  unfold impl_ReadLog.f
  rw [L_lines33 s P S h e] at hz ⊢
  rw [List.map_cons, List.headD_cons] at hz
  rw [if_pos hs, List.map_cons, List.headD_cons, L_implCurveOf (D_mk (D_crv P)) hz P h.1 (L_mkData _)]
  simp only [Option.bind_some, if_true, List.drop_succ_cons, List.drop_zero]
  rw [L_readSteps S [] hS]
  simp only [List.nil_append]
  rw [L_implSteps S hB]
  simp only [Option.bind_some]
  rw [if_pos (decide_eq_true h.2.1), L_implLogTL P S h (by omega)]
  simp only [Option.bind_some]
  rw [L_mkToList, Lib.toList_data, if_pos e.symm]

theorem L_mkSz (x : List UInt8) : (D_mk x).size = x.length := by simp [D_mk, ByteArray.size]

theorem L_linedLe (b : UInt8) (m : Nat) : ∀ L : List (List UInt8), (∀ x ∈ L, x.length ≤ m) → (D_lined b L).length ≤ (m + 1) * L.length
  | [], _ => by simp [D_lined]
  | x :: t, h => by
    have h1 := h x (by simp)
    have h2 := L_linedLe b m t (fun y hy => h y (List.mem_cons_of_mem _ hy))
    rw [D_lined, List.length_append, List.length_cons, List.length_cons, Nat.mul_add]
    omega

theorem L_hexNLen (u : Nat) : ∀ n, (D_hexN u n).length = n
  | 0 => rfl
  | n + 1 => by rw [D_hexN, List.length_cons, L_hexNLen u n]

theorem L_tlSize (P : List S102) (S : List S55) (h : D_okLog P S) : (D_mk (D_TL P S)).size ≤ 1048576 := by
  have hf := (L_curveFacts h.1).1
  have hb := L_joinLen P (L_okPt h.1) hf.2
  rw [L_joinGlue] at hb
  have hS := h.2.1.2
  rw [L_mkSz]
  unfold D_TL
  have := L_linedLe 10 300 (D_crv P :: S.map D_sl) (fun x hx => by
    rcases List.mem_cons.1 hx with rfl | hx
    · exact hb
    · obtain ⟨s, hs, rfl⟩ := List.mem_map.1 hx
      have h1 := h.2.1.1 s hs
      have h2 := L_decLen 6 s.f1.toNat (by omega) (by omega)
      unfold D_sl
      rw [List.length_append, L_hexNLen, List.length_cons]
      omega)
  rw [List.length_cons, List.length_map] at this
  have h3 : 301 * (S.length + 1) ≤ 301 * 31 := Nat.mul_le_mul_left _ (by omega)
  omega

theorem L_everyOk (P : List S102) (S : List S55) (h : D_okLog P S) : impl_LogText.f 100 P S = some (D_mk (D_TL P S)) ∧ impl_ReadLog.f (D_mk (D_TL P S)) = some (P, S, 0) := by
  refine ⟨?_, L_implLogOf _ (L_tlSize P S h) P S h (L_mkData _)⟩
  have hf := (L_curveFacts h.1).1
  have h16 : D_i16s P := fun p hp => by have := L_okPt h.1 p hp; omega
  have h8 : D_i8s S := fun s hs => by have := h.2.1.1 s hs; omega
  unfold impl_LogText.f
  rw [L_implCurve P h16 (by omega) (by omega)]
  simp only [Option.bind_some]
  rw [if_pos h.1, L_implSteps S h8]
  simp only [Option.bind_some]
  rw [if_pos (decide_eq_true h.2.1), L_implLogTL P S h (by omega)]
  rfl


-- L_everyOk
end Go.Proofs.YtjonocgmofcieaaGreatDoor.PL
