-- Plain lemmas on the laws' marks.
import Derived.Test.YticnajjbmdfidaaQx10
import Derived.Test.YticnajjbmdfidaaQx14
import Derived.Test.YticnajjbmdfidaaArrPLX
import Derived.Test.YticnajjbmdfidaaArrPLC
namespace Go.Proofs.Yticnajjbmdfidaa.PL
open Go.RowKit Go.Proofs.Yticnajjbmdfidaa.Q Go.Proofs.YticnajjbmdfidaaW.PrintWords Go.Proofs.YticnajjbmdfidaaW.PrintLast Go.Proofs.YticnajjbmdfidaaW.PrintMore
set_option linter.unusedVariables false
set_option linter.unusedSimpArgs false
theorem L_markSt (n : Nat) (hn : n ≤ 1048576) (d : Nat) : ∀ (k : Nat) (l : List S76) (v i : Int), l.length = n → 0 ≤ i → i + d = n → d < k → 0 ≤ v → v ≤ 1000000000 + 2 * i →
    ∃ l', laws_markStepS.l0 k l v i = some (v + 2 * d, l') ∧ l'.length = n ∧ (∀ j : Int, 0 ≤ j → j < i → rd_T76 l' j = rd_T76 l j) ∧
      (∀ j : Int, i ≤ j → j < n → (rd_T76 l' j).f0 = IntKind.u64.wrap (v + 2 * (j - i)) ∧ (rd_T76 l' j).f1 = IntKind.i8.wrap (v + 2 * (j - i) + 1)) := by
  induction d with
  | zero =>
    intro k l v i hl h0 hd hk hv hv2
    obtain ⟨k, rfl⟩ : ∃ m, k = m + 1 := ⟨k - 1, by omega⟩
    refine ⟨l, ?_, hl, fun _ _ _ => rfl, fun j h1 h2 => by omega⟩
    simp only [laws_markStepS.l0]; rw [if_neg (by omega)]; simp
  | succ d ih =>
    intro k l v i hl h0 hd hk hv hv2
    obtain ⟨k, rfl⟩ : ∃ m, k = m + 1 := ⟨k - 1, by omega⟩
    have key : ∀ y : List S76, y.length = n → (∀ j : Int, 0 ≤ j → j < i → rd_T76 y j = rd_T76 l j) → (rd_T76 y i).f0 = IntKind.u64.wrap v → (rd_T76 y i).f1 = IntKind.i8.wrap (v + 1) →
        ∃ l', laws_markStepS.l0 k y (v + 1 + 1) (i + 1) = some (v + 2 * ((d + 1 : Nat) : Int), l') ∧ l'.length = n ∧ (∀ j : Int, 0 ≤ j → j < i → rd_T76 l' j = rd_T76 l j) ∧
          (∀ j : Int, i ≤ j → j < n → (rd_T76 l' j).f0 = IntKind.u64.wrap (v + 2 * (j - i)) ∧ (rd_T76 l' j).f1 = IntKind.i8.wrap (v + 2 * (j - i) + 1)) := by
      intro y hy hy1 hy2 hy3
      obtain ⟨l', e, hl', h1, h2⟩ := ih k y (v + 1 + 1) (i + 1) hy (by omega) (by omega) (by omega) (by omega) (by omega)
      refine ⟨l', by rw [e]; congr 2; omega, hl', fun j hj hj2 => by rw [h1 j hj (by omega), hy1 j hj hj2], fun j hj hj2 => ?_⟩
      by_cases e2 : j = i
      · subst e2
        rw [h1 j (by omega) (by omega), hy2, hy3]; simp
      · have := h2 j (by omega) hj2
        rw [show v + 1 + 1 + 2 * (j - (i + 1)) = v + 2 * (j - i) by omega] at this
        exact this
    simp only [laws_markStepS.l0, Option.bind_some]
    rw [if_pos (by omega), if_pos h0, L_w (x := v + 1) (by omega), L_w (x := v + 1 + 1) (by omega), L_w (x := i + 1) (by omega)]
    refine key _ (by simpa using hl) (fun j hj hj2 => ?_) ?_ ?_
    · rw [L_rdNe h0 hj (by omega), L_rdNe h0 hj (by omega)]
    · rw [L_rdSet h0 (by simp <;> omega), L_rdSet h0 (by omega)]
    · rw [L_rdSet h0 (by simp <;> omega)]

theorem L_heldSt (n : Nat) (hn : n ≤ 1048576) (l : List S76) (hl : l.length = n) (d : Nat) : ∀ (k : Nat) (v i : Int), 0 ≤ i → i + d = n → d < k → 0 ≤ v → v ≤ 1000000000 + 2 * i →
    (∀ j : Int, i ≤ j → j < n → (rd_T76 l j).f0 = IntKind.u64.wrap (v + 2 * (j - i)) ∧ (rd_T76 l j).f1 = IntKind.i8.wrap (v + 2 * (j - i) + 1)) →
    laws_heldStepS.l0 k l v i = some (v + 2 * d) := by
  induction d with
  | zero =>
    intro k v i h0 hd hk hv hv2 h
    obtain ⟨k, rfl⟩ : ∃ m, k = m + 1 := ⟨k - 1, by omega⟩
    simp only [laws_heldStepS.l0]; rw [if_neg (by omega)]; simp
  | succ d ih =>
    intro k v i h0 hd hk hv hv2 h
    obtain ⟨k, rfl⟩ : ∃ m, k = m + 1 := ⟨k - 1, by omega⟩
    obtain ⟨h1, h2⟩ := h i (by omega) (by omega)
    rw [show v + 2 * (i - i) = v by omega] at h1 h2
    simp only [laws_heldStepS.l0]
    rw [if_pos (by omega), if_pos h0, if_pos h1, L_w (x := v + 1) (by omega), if_pos h2, L_w (x := v + 1 + 1) (by omega), L_w (x := i + 1) (by omega),
      ih k (v + 1 + 1) (i + 1) (by omega) (by omega) (by omega) (by omega) (by omega) (fun j hj hj2 => by have := h j (by omega) hj2; rwa [show v + 1 + 1 + 2 * (j - (i + 1)) = v + 2 * (j - i) by omega])]
    congr 1; omega

theorem L_markHeldSt2 (l : List S76) (hn : l.length ≤ 1048576) {k : Nat} (hk : l.length < k) : ∃ l', l'.length = l.length ∧ laws_markStepS.f k l 1 = some (1 + 2 * (l.length : Int), l') ∧ (∀ q, l.length < q → laws_heldStepS.f q l' 1 = some (1 + 2 * (l.length : Int))) := by
  obtain ⟨l', e, hl', _, h2⟩ := L_markSt l.length hn l.length k l 1 0 rfl (by omega) (by omega) hk (by omega) (by omega)
  exact ⟨l', hl', e, fun q hq => L_heldSt l.length hn l' hl' l.length q 1 0 (by omega) (by omega) hq (by omega) (by omega) h2⟩


theorem L_markCurve (n : Nat) (hn : n ≤ 1048576) (d : Nat) : ∀ (k : Nat) (l : List S91) (v i : Int), l.length = n → 0 ≤ i → i + d = n → d < k → 0 ≤ v → v ≤ 1000000000 + 2 * i → ∃ l', laws_markCurve.l0 k l v i = some (v + 2 * d, l') := by
  induction d with
  | zero =>
    intro k l v i hl h0 hd hk hv hv2
    obtain ⟨k, rfl⟩ : ∃ m, k = m + 1 := ⟨k - 1, by omega⟩
    refine ⟨l, ?_⟩
    simp only [laws_markCurve.l0]; rw [if_neg (by omega)]; simp
  | succ d ih =>
    intro k l v i hl h0 hd hk hv hv2
    obtain ⟨k, rfl⟩ : ∃ m, k = m + 1 := ⟨k - 1, by omega⟩
    simp only [laws_markCurve.l0, Option.bind_some]
    rw [if_pos (by omega), if_pos h0, L_w (x := v + 1) (by omega), L_w (x := v + 1 + 1) (by omega), L_w (x := i + 1) (by omega)]
    rw [show v + 2 * ((d + 1 : Nat) : Int) = v + 1 + 1 + 2 * (d : Int) by omega]
    exact ih k _ (v + 1 + 1) (i + 1) (by simpa using hl) (by omega) (by omega) (by omega) (by omega) (by omega)

theorem L_markCurveF (l : List S91) (hn : l.length ≤ 1048576) (v : Int) (hv : 0 ≤ v ∧ v ≤ 1000000000) {k : Nat} (hk : l.length < k) : ∃ l', laws_markCurve.f k l v = some (v + 2 * l.length, l') := by
  obtain ⟨l', e⟩ := L_markCurve l.length hn l.length k l v 0 rfl (by omega) (by omega) hk (by omega) (by omega)
  unfold laws_markCurve.f
  exact ⟨l', e⟩


-- L_markHeldSt2 L_markCurveF
end Go.Proofs.Yticnajjbmdfidaa.PL
