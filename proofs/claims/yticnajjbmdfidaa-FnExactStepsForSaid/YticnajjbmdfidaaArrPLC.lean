-- Plain lemmas on the laws' own conversions of curves.
import Derived.Test.YticnajjbmdfidaaQx11
import Derived.Test.YticnajjbmdfidaaArrPL
namespace Go.Proofs.Yticnajjbmdfidaa.PL
open Go.RowKit Go.Proofs.Yticnajjbmdfidaa.Q Go.Proofs.YticnajjbmdfidaaW.PrintWords Go.Proofs.YticnajjbmdfidaaW.PrintLast Go.Proofs.YticnajjbmdfidaaW.PrintMore
set_option linter.unusedVariables false
set_option linter.unusedSimpArgs false
theorem L_szCurve (l : List S93) (a : Int) (ha : 0 ≤ a ∧ a ≤ 1048576) (h : l.length * 4 ≤ 140737488351232) : laws_szCurve.f l a = some (if a < (l.length : Int) then (-1 : Int) else a - (l.length : Int)) := by
  unfold laws_szCurve.f; rw [L_w (by omega)]
  by_cases h : a < (l.length : Int)
  · rw [if_pos (by omega), if_pos h]
  · rw [if_neg (by omega), if_neg h]

def D_point (x : S93) : S91 := ⟨x.f0, x.f1⟩

theorem L_rdLP {l : List S93} {i : Int} (h0 : 0 ≤ i) (h : i < l.length) : ∃ hi : i.toNat < l.length, rd_T93 l i = l[i.toNat]'hi :=
  ⟨by omega, by unfold rd_T93; rw [List.getD_eq_getElem?_getD, List.getElem?_eq_getElem (by omega)]; rfl⟩

theorem L_toCurveLoop (l : List S93) (hn : l.length ≤ 1048576) (d : Nat) : ∀ (k : Nat) (out : List S91) (i : Int), out.length = l.length → 0 ≤ i → i + d = l.length → d < k → out.take i.toNat = (l.map D_point).take i.toNat → laws_toCurve.l0 k l out i = some (l.map D_point) := by
  induction d with
  | zero =>
    intro k out i ho h0 hd hk ht
    obtain ⟨k, rfl⟩ : ∃ m, k = m + 1 := ⟨k - 1, by omega⟩
    simp only [laws_toCurve.l0]; rw [if_neg (by omega)]
    rw [List.take_of_length_le (by omega), List.take_of_length_le (by simp; omega)] at ht
    rw [ht]
  | succ d ih =>
    intro k out i ho h0 hd hk ht
    obtain ⟨k, rfl⟩ : ∃ m, k = m + 1 := ⟨k - 1, by omega⟩
    obtain ⟨hi, e⟩ := L_rdLP (l := l) (i := i) h0 (by omega)
    simp only [laws_toCurve.l0, laws_toPoint.f, Option.bind_some]; rw [if_pos (by omega), if_pos h0, if_pos (by omega), L_w (x := i + 1) (by omega)]
    refine ih k _ (i + 1) (by simpa using ho) (by omega) (by omega) (by omega) ?_
    rw [show (i + 1).toNat = i.toNat + 1 by omega, List.take_succ_eq_append_getElem (by simp; omega), List.take_succ_eq_append_getElem (by simpa using hi), List.getElem_set_self, List.take_set_of_le (by omega), ht, List.getElem_map, e]
    rfl

theorem L_toCurve (l : List S93) (hn : l.length ≤ 1048576) {k : Nat} (hk : l.length < k) : laws_toCurve.f k l = some (l.map D_point) := by
  unfold laws_toCurve.f
  rw [if_pos (by omega), if_pos (by omega)]
  exact L_toCurveLoop l hn l.length k _ 0 (by simp) (by omega) (by omega) hk (by simp)

theorem L_eqCurve (l : List S91) (hn : l.length ≤ 140737488351232) {k : Nat} (hk : l.length < k) : laws_eqCurve.f k l l = some true := by
  have H : ∀ (d : Nat) (k : Nat) (i : Int), 0 ≤ i → i + d = l.length → d < k → laws_eqCurve.l0 k l l i = some true := by
    intro d
    induction d with
    | zero =>
      intro k i h0 hd hk
      obtain ⟨k, rfl⟩ : ∃ m, k = m + 1 := ⟨k - 1, by omega⟩
      simp only [laws_eqCurve.l0]; rw [if_neg (by omega)]
    | succ d ih =>
      intro k i h0 hd hk
      obtain ⟨k, rfl⟩ : ∃ m, k = m + 1 := ⟨k - 1, by omega⟩
      simp only [laws_eqCurve.l0, laws_eqPoint.f, if_true, Option.bind_some]; rw [if_pos (by omega), if_pos h0, if_pos (by omega), L_w (x := i + 1) (by omega)]
      exact ih k (i + 1) (by omega) (by omega) (by omega)
  unfold laws_eqCurve.f; rw [if_pos rfl]; exact H l.length k 0 (by omega) (by omega) hk

theorem L_map16 (l : List S93) (h : ∀ x ∈ l, -32768 ≤ x.f0 ∧ x.f0 ≤ 32767 ∧ -32768 ≤ x.f1 ∧ x.f1 ≤ 32767) : D_i16s (l.map D_point) := by
  intro x hx
  simp only [List.mem_map] at hx
  obtain ⟨y, hy, rfl⟩ := hx
  have := h y hy
  unfold D_point
  dsimp only
  omega

-- L_szCurve L_toCurve L_eqCurve L_map16
end Go.Proofs.Yticnajjbmdfidaa.PL
