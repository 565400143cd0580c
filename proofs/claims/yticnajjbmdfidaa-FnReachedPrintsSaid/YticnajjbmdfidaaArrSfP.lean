-- Steps that are made for a print: the plain part.
import Derived.Test.YticnajjbmdfidaaQx3
import Derived.Test.YticnajjbmdfidaaQx7
import Derived.Test.YticnajjbmdfidaaQx9
import Derived.Test.YticnajjbmdfidaaArrFrom
namespace Go.Proofs.Yticnajjbmdfidaa.Q
open Go.RowKit Go.Proofs.Yticnajjbmdfidaa.PL Go.Proofs.YticnajjbmdfidaaW.PrintWords Go.Proofs.YticnajjbmdfidaaW.PrintLast Go.Proofs.YticnajjbmdfidaaW.PrintMore
set_option linter.unusedVariables false
set_option linter.unusedSimpArgs false
/-- the cells from k on (d cells) that are dark enough with a light, laid onto a mask -/
def D_sfMaskFrom (l : List S91) (xs ts : List Int) (L : Int) : Nat → Int → Int → Int
  | 0, a, _ => a
  | d + 1, a, k => D_sfMaskFrom l xs ts L d (if rd ts k ≤ D_cell l (rd xs k) L then Go.bits .or .u64 a (IntKind.u64.wrap (2 ^ k.toNat)) else a) (k + 1)
theorem L_sfMask (l : List S91) (xs ts : List Int) (L : Int) (d : Nat) : ∀ (a k : Int), U64 a → 0 ≤ k → k + d = 64 → U64 (D_sfMaskFrom l xs ts L d a k) ∧ ∀ j : Int, 0 ≤ j → j < 64 → tb (D_sfMaskFrom l xs ts L d a k) j = (tb a j || decide (k ≤ j ∧ rd ts j ≤ D_cell l (rd xs j) L)) := by
  induction d with
  | zero =>
    intro a k ha hk hd
    refine ⟨ha, fun j h0 h1 => ?_⟩
    simp only [D_sfMaskFrom]
    rw [decide_eq_false (by omega)]; simp
  | succ d ih =>
    intro a k ha hk hd
    obtain ⟨hp, hu⟩ := u64_pow hk (by omega)
    simp only [D_sfMaskFrom]
    rw [hp]
    by_cases h : rd ts k ≤ D_cell l (rd xs k) L
    · rw [if_pos h]
      obtain ⟨h1, h2⟩ := ih (Go.bits .or .u64 a (2 ^ k.toNat)) (k + 1) (u64_or ha hu) (by omega) (by omega)
      refine ⟨h1, fun j j0 j1 => ?_⟩
      rw [h2 j j0 j1, tb_or ha hu, tb_pow hk (by omega) j0]
      by_cases e : j = k
      · subst e; simp [h]
      · have : decide (k + 1 ≤ j ∧ rd ts j ≤ D_cell l (rd xs j) L) = decide (k ≤ j ∧ rd ts j ≤ D_cell l (rd xs j) L) := decide_eq_decide.mpr ⟨fun q => ⟨by omega, q.2⟩, fun q => ⟨by omega, q.2⟩⟩
        rw [this]; simp [e]
    · rw [if_neg h]
      obtain ⟨h1, h2⟩ := ih a (k + 1) ha (by omega) (by omega)
      refine ⟨h1, fun j j0 j1 => ?_⟩
      rw [h2 j j0 j1]
      congr 1
      apply decide_eq_decide.mpr
      constructor
      · exact fun q => ⟨by omega, q.2⟩
      · intro q
        refine ⟨?_, q.2⟩
        by_cases e : j = k
        · subst e; exact absurd q.2 h
        · omega
def D_needFrom (f : Int → Int) (t : Int) : Nat → Int → Int
  | 0, k => k
  | d + 1, k => if f k < t then D_needFrom f t d (k + 1) else k
theorem L_needFrom (f : Int → Int) (t : Int) (d : Nat) : ∀ k : Int, k ≤ D_needFrom f t d k ∧ D_needFrom f t d k ≤ k + d ∧ (∀ j, k ≤ j → j < D_needFrom f t d k → f j < t) ∧ (D_needFrom f t d k < k + d → t ≤ f (D_needFrom f t d k)) := by
  induction d with
  | zero => intro k; simp only [D_needFrom]; exact ⟨by omega, by omega, fun j h1 h2 => by omega, fun h => by omega⟩
  | succ d ih =>
    intro k
    simp only [D_needFrom]
    split
    · rename_i h
      obtain ⟨h1, h2, h3, h4⟩ := ih (k + 1)
      refine ⟨by omega, by omega, fun j a b => ?_, fun a => h4 (by omega)⟩
      by_cases e : j = k
      · subst e; exact h
      · exact h3 j (by omega) b
    · exact ⟨by omega, by omega, fun j a b => by omega, fun _ => by omega⟩
/-- the least light with which a cell is dark enough; 37 if there is none -/
def D_need (l : List S91) (xs ts : List Int) (i : Int) : Int := D_needFrom (fun k => D_cell l (rd xs i) k) (rd ts i) 37 0
theorem L_needRange (l : List S91) (xs ts : List Int) (i : Int) : 0 ≤ D_need l xs ts i ∧ D_need l xs ts i ≤ 37 := by
  have := L_needFrom (fun k => D_cell l (rd xs i) k) (rd ts i) 37 0
  unfold D_need; omega
theorem L_needAt (l : List S91) (xs ts : List Int) (i : Int) {k : Int} (h0 : 0 ≤ k) (h1 : k ≤ 36) : (rd ts i ≤ D_cell l (rd xs i) k ∧ ¬ D_need l xs ts i < k) ↔ D_need l xs ts i = k := by
  obtain ⟨a1, a2, a3, a4⟩ := L_needFrom (fun k => D_cell l (rd xs i) k) (rd ts i) 37 0
  unfold D_need
  constructor
  · intro ⟨p, q⟩
    by_cases e : k < D_needFrom (fun k => D_cell l (rd xs i) k) (rd ts i) 37 0
    · have := a3 k h0 e; omega
    · omega
  · intro e
    refine ⟨?_, by omega⟩
    have := a4 (by omega)
    rw [e] at this; exact this
theorem L_needUniq (l : List S91) (xs ts : List Int) (i : Int) {k : Int} (h0 : 0 ≤ k ∧ k ≤ 37) (h1 : ∀ j, 0 ≤ j → j < k → D_cell l (rd xs i) j < rd ts i) (h2 : k ≤ 36 → rd ts i ≤ D_cell l (rd xs i) k) : k = D_need l xs ts i := by
  obtain ⟨a1, a2, a3, a4⟩ := L_needFrom (fun k => D_cell l (rd xs i) k) (rd ts i) 37 0
  unfold D_need
  by_cases e : k < D_needFrom (fun k => D_cell l (rd xs i) k) (rd ts i) 37 0
  · have := a3 k h0.1 e; have := h2 (by omega); omega
  · by_cases e2 : D_needFrom (fun k => D_cell l (rd xs i) k) (rd ts i) 37 0 < k
    · have := h1 _ a1 e2; have := a4 (by omega); omega
    · omega
/-- the mask of the first n cells whose need is v -/
def D_mskTo (nd : Int → Int) (v : Int) : Nat → Int
  | 0 => 0
  | n + 1 => if nd (n : Int) = v then Go.bits .or .u64 (D_mskTo nd v n) (IntKind.u64.wrap (2 ^ n)) else D_mskTo nd v n
theorem L_mskTo (nd : Int → Int) (v : Int) : ∀ n : Nat, n ≤ 64 → U64 (D_mskTo nd v n) ∧ ∀ j : Int, 0 ≤ j → tb (D_mskTo nd v n) j = decide (j < n ∧ nd j = v)
  | 0, _ => ⟨u64_zero, fun j h => by simp only [D_mskTo]; rw [tb_zero, decide_eq_false (by omega)]⟩
  | n + 1, hn => by
    obtain ⟨h1, h2⟩ := L_mskTo nd v n (by omega)
    obtain ⟨hp, hu⟩ := u64_pow (i := (n : Int)) (by omega) (by omega)
    rw [Int.toNat_natCast] at hp hu
    have hq := fun (j : Int) (hj : 0 ≤ j) => tb_pow (i := (n : Int)) (by omega) (by omega) hj
    simp only [Int.toNat_natCast] at hq
    simp only [D_mskTo]
    rw [hp]
    by_cases h : nd (n : Int) = v
    · rw [if_pos h]
      refine ⟨u64_or h1 hu, fun j j0 => ?_⟩
      rw [tb_or h1 hu, h2 j j0, hq j j0]
      by_cases e : j = (n : Int)
      · subst e; simp [h]; omega
      · have : decide (j < ((n + 1 : Nat) : Int) ∧ nd j = v) = decide (j < (n : Int) ∧ nd j = v) := decide_eq_decide.mpr ⟨fun q => ⟨by omega, q.2⟩, fun q => ⟨by omega, q.2⟩⟩
        rw [this]; simp [e]
    · rw [if_neg h]
      refine ⟨h1, fun j j0 => ?_⟩
      rw [h2 j j0]
      apply decide_eq_decide.mpr
      constructor
      · exact fun q => ⟨by omega, q.2⟩
      · intro q
        refine ⟨?_, q.2⟩
        by_cases e : j = (n : Int)
        · subst e; exact absurd q.2 h
        · omega
def D_msk (nd : Int → Int) (v : Int) : Int := D_mskTo nd v 64
theorem L_msk (nd : Int → Int) (v : Int) : U64 (D_msk nd v) ∧ ∀ j : Int, 0 ≤ j → j < 64 → tb (D_msk nd v) j = decide (nd j = v) := by
  obtain ⟨h1, h2⟩ := L_mskTo nd v 64 (by omega)
  exact ⟨h1, fun j h0 hl => by unfold D_msk; rw [h2 j h0]; exact decide_eq_decide.mpr ⟨fun q => q.2, fun q => ⟨by omega, q⟩⟩⟩
def D_sfList (nd : Int → Int) : Nat → Int → List S76 → List S76
  | 0, _, o => o
  | d + 1, k, o => D_sfList nd d (k + 1) (if D_msk nd k = 0 then o else o ++ [⟨D_msk nd k, k⟩])
/-- is there a cell that no light makes dark enough -/
def D_bad (nd : Int → Int) : Prop := ∃ i : Nat, i < 64 ∧ nd (i : Int) = 37
instance (nd : Int → Int) : Decidable (D_bad nd) := decidable_of_iff ((List.range 64).any (fun i : Nat => decide (nd (i : Int) = 37)) = true) (by unfold D_bad; simp)
def D_sfOk (xs : List Int) (l : List S91) (ts : List Int) : Prop := D_dense xs ∧ D_curve l = true ∧ D_dense ts
instance (xs : List Int) (l : List S91) (ts : List Int) : Decidable (D_sfOk xs l ts) := by unfold D_sfOk; infer_instance
def D_stepsFor (xs : List Int) (l : List S91) (ts : List Int) : List S76 × Int :=
  if D_sfOk xs l ts then (if D_bad (D_need l xs ts) then ([], 6) else (D_sfList (D_need l xs ts) 37 0 [], 0)) else ([], 1)
/-- the spec's round: what is left of a light's mask is the mask of the cells that need that light -/
theorem L_sfRound (l : List S91) (xs ts : List Int) {L dn : Int} (h0 : 0 ≤ L) (h1 : L ≤ 36) (hu : U64 dn) (hd : ∀ j : Int, 0 ≤ j → j < 64 → tb dn j = decide (D_need l xs ts j < L)) :
    Go.bits .andNot .u64 (D_sfMaskFrom l xs ts L 64 0 0) dn = D_msk (D_need l xs ts) L := by
  obtain ⟨m1, m2⟩ := L_sfMask l xs ts L 64 0 0 u64_zero (by omega) (by omega)
  obtain ⟨k1, k2⟩ := L_msk (D_need l xs ts) L
  refine tb_ext (u64_andNot m1 hu) k1 (fun j j0 j1 => ?_)
  rw [tb_andNot m1 hu j0 j1, m2 j j0 j1, hd j j0 j1, k2 j j0 j1, tb_zero]
  have := L_needAt l xs ts j h0 h1
  by_cases e : D_need l xs ts j = L
  · have q := this.2 e
    simp [e, q.1, j0]
  · rw [decide_eq_false e]
    by_cases p : rd ts j ≤ D_cell l (rd xs j) L
    · have : D_need l xs ts j < L := by
        by_cases q : D_need l xs ts j < L
        · exact q
        · exact absurd (this.1 ⟨p, q⟩) e
      simp [this]
    · simp [p]
theorem L_sfDone0 (nd : Int → Int) {L dn : Int} (hd : ∀ j : Int, 0 ≤ j → j < 64 → tb dn j = decide (nd j < L)) (hm : D_msk nd L = 0) : ∀ j : Int, 0 ≤ j → j < 64 → tb dn j = decide (nd j < L + 1) := by
  intro j j0 j1
  have k2 := (L_msk nd L).2 j j0 j1
  rw [hm, tb_zero] at k2
  have : nd j ≠ L := by intro e; rw [decide_eq_true e] at k2; cases k2
  rw [hd j j0 j1]
  exact decide_eq_decide.mpr ⟨fun q => by omega, fun q => by omega⟩
theorem L_sfDone1 (nd : Int → Int) {L dn : Int} (hu : U64 dn) (hd : ∀ j : Int, 0 ≤ j → j < 64 → tb dn j = decide (nd j < L)) : U64 (Go.bits .or .u64 dn (D_msk nd L)) ∧ ∀ j : Int, 0 ≤ j → j < 64 → tb (Go.bits .or .u64 dn (D_msk nd L)) j = decide (nd j < L + 1) := by
  obtain ⟨k1, k2⟩ := L_msk nd L
  refine ⟨u64_or hu k1, fun j j0 j1 => ?_⟩
  rw [tb_or hu k1, hd j j0 j1, k2 j j0 j1]
  by_cases a : nd j < L
  · rw [decide_eq_true a, decide_eq_true (show nd j < L + 1 by omega)]; rfl
  · by_cases b : nd j = L
    · rw [decide_eq_true b, decide_eq_true (show nd j < L + 1 by omega)]; simp
    · rw [decide_eq_false a, decide_eq_false b, decide_eq_false (show ¬ nd j < L + 1 by omega)]; rfl
theorem L_sfAll (nd : Int → Int) {dn : Int} (hr : ∀ j : Int, 0 ≤ j → j < 64 → nd j ≤ 37) (hu : U64 dn) (hd : ∀ j : Int, 0 ≤ j → j < 64 → tb dn j = decide (nd j < 37)) : 18446744073709551615 - dn = 0 ↔ ¬ D_bad nd := by
  constructor
  · rintro e ⟨i, hi, hb⟩
    have e1 : dn = 18446744073709551615 := by omega
    have := hd i (by omega) (by omega)
    rw [e1, hb] at this
    have h2 := tb_not u64_zero (k := (i : Int)) (by omega) (by omega)
    rw [tb_zero] at h2
    simp at h2
    rw [h2] at this
    simp at this
  · intro hb
    have e1 : dn = 18446744073709551615 - 0 := by
      refine tb_ext hu (by unfold U64; omega) (fun j j0 j1 => ?_)
      rw [tb_not u64_zero j0 j1, tb_zero, hd j j0 j1]
      have : nd j ≠ 37 := fun e => hb ⟨j.toNat, by omega, by rw [show ((j.toNat : Nat) : Int) = j by omega]; exact e⟩
      have := hr j j0 j1
      rw [decide_eq_true (by omega)]; rfl
    omega
theorem L_sfListLen (nd : Int → Int) (d : Nat) : ∀ (k : Int) (o : List S76), (D_sfList nd d k o).length ≤ o.length + d := by
  induction d with
  | zero => intro k o; simp [D_sfList]
  | succ d ih =>
    intro k o
    simp only [D_sfList]
    refine Nat.le_trans (ih _ _) ?_
    split <;> simp <;> omega
theorem L_stepsForLen (xs : List Int) (l : List S91) (ts : List Int) : (D_stepsFor xs l ts).1.length ≤ 37 := by
  unfold D_stepsFor
  split
  · split
    · simp
    · have := L_sfListLen (D_need l xs ts) 37 0 []; simpa using this
  · simp
end Go.Proofs.Yticnajjbmdfidaa.Q
