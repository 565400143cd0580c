/- The plain law of FnExactStrengthsIn: the printed function of the law answers true for all arguments within their kinds' bounds. No condition besides. -/
import Derived.Test.YtcimollhdocphaaQx40
namespace Go.Proofs.Ytcimollhdocphaa.Pure
open Go.RowKit Go.Proofs.Ytcimollhdocphaa.Q Go.Proofs.YtcimollhdocphaaW.PrintWords Go.Proofs.YtcimollhdocphaaW.PrintLast Go.Proofs.YtcimollhdocphaaW.PrintMore
set_option linter.unusedVariables false
set_option linter.unusedSimpArgs false
def D_actB (l : List S161) : Prop := ∀ x ∈ l, -128 ≤ x.f0 ∧ x.f0 ≤ 127

def D_act (x : S163) : S161 := ⟨x.f0, x.f1⟩

theorem L_mapAct (l : List S163) (h : ∀ x ∈ l, -128 ≤ x.f0 ∧ x.f0 ≤ 127 ∧ -9223372036854775808 ≤ x.f1 ∧ x.f1 ≤ 9223372036854775807) : D_actB (l.map D_act) := by
  intro x hx
  simp only [List.mem_map] at hx
  obtain ⟨y, hy, rfl⟩ := hx
  have := h y hy
  unfold D_act
  dsimp only
  omega

theorem L_w {x : Int} (h : -9223372036854775808 ≤ x ∧ x ≤ 9223372036854775807) : wrap64 x = x := by unfold wrap64; omega

theorem L_szActs (l : List S163) (h : l.length * 16 ≤ 140737488351232) : laws_szActS.f l 1048576 = some (if 1048576 < (l.length : Int) then (-1 : Int) else (1048576 : Int) - (l.length : Int)) := by
  unfold laws_szActS.f; rw [L_w (by omega)]
  by_cases h : 1048576 < (l.length : Int)
  · rw [if_pos (by omega), if_pos h]
  · rw [if_neg (by omega), if_neg h]

theorem L_rdAL {l : List S163} {i : Int} (h0 : 0 ≤ i) (h : i < l.length) : ∃ hi : i.toNat < l.length, rd_T163 l i = l[i.toNat]'hi :=
  ⟨by omega, by unfold rd_T163; rw [List.getD_eq_getElem?_getD, List.getElem?_eq_getElem (by omega)]; rfl⟩

theorem L_toActsLoop (l : List S163) (hn : l.length ≤ 1048576) (d : Nat) : ∀ (k : Nat) (out : List S161) (i : Int), out.length = l.length → 0 ≤ i → i + d = l.length → d < k → out.take i.toNat = (l.map D_act).take i.toNat → laws_toActS.l0 k l out i = some (l.map D_act) := by
  induction d with
  | zero =>
    intro k out i ho h0 hd hk ht
    obtain ⟨k, rfl⟩ : ∃ m, k = m + 1 := ⟨k - 1, by omega⟩
    simp only [laws_toActS.l0]; rw [if_neg (by omega)]
    rw [List.take_of_length_le (by omega), List.take_of_length_le (by simp; omega)] at ht
    rw [ht]
  | succ d ih =>
    intro k out i ho h0 hd hk ht
    obtain ⟨k, rfl⟩ : ∃ m, k = m + 1 := ⟨k - 1, by omega⟩
    obtain ⟨hi, e⟩ := L_rdAL (l := l) (i := i) h0 (by omega)
    simp only [laws_toActS.l0, laws_toAct.f, Option.bind_some]; rw [if_pos (by omega), if_pos h0, if_pos (by omega), L_w (x := i + 1) (by omega)]
    refine ih k _ (i + 1) (by simpa using ho) (by omega) (by omega) (by omega) ?_
    rw [show (i + 1).toNat = i.toNat + 1 by omega, List.take_succ_eq_append_getElem (by simp; omega), List.take_succ_eq_append_getElem (by simpa using hi), List.getElem_set_self, List.take_set_of_le (by omega), ht, List.getElem_map, e]
    rfl

theorem L_toActs (l : List S163) (hn : l.length ≤ 1048576) {k : Nat} (hk : l.length < k) : laws_toActS.f k l = some (l.map D_act) := by
  unfold laws_toActS.f
  rw [if_pos (by omega), if_pos (by omega)]
  exact L_toActsLoop l hn l.length k _ 0 (by simp) (by omega) (by omega) hk (by simp)

def D_dev (a b c d : Int) : Prop := 100 ≤ a ∧ a ≤ 100000 ∧ 1 ≤ b ∧ b ≤ 100000 ∧ 10 ≤ c ∧ c ≤ 40 ∧ 1 ≤ d ∧ d ≤ 10
instance (a b c d : Int) : Decidable (D_dev a b c d) := by unfold D_dev; infer_instance

def D_vol (p v u g : Int) : Prop := 1 ≤ v ∧ v ≤ 20000 ∧ 0 ≤ u ∧ u ≤ 100000000 ∧ 0 ≤ g ∧ g ≤ 100000 ∧ 1000 * u ≤ v * p
instance (p v u g : Int) : Decidable (D_vol p v u g) := by unfold D_vol; infer_instance

def D_kinds (l : List S161) : Prop := ∀ x ∈ l, 0 ≤ x.f0 ∧ x.f0 ≤ 2
instance (l : List S161) : Decidable (D_kinds l) := by unfold D_kinds; infer_instance

def D_listed (p k c d v u g : Int) (l : List S161) : Int := if D_dev p k c d ∧ D_vol p v u g then (if (l.length : Int) > 60 then 3 else (if D_kinds l then 0 else 2)) else 1

theorem L_listed0 {p k c d v u g : Int} {l : List S161} (h : D_listed p k c d v u g l = 0) : D_dev p k c d ∧ D_vol p v u g := by
  unfold D_listed at h
  split at h
  · assumption
  · omega

def D_slowFrom (s : Int) : Nat → Int → Int
  | 0, i => i
  | d + 1, i => if tmv i * s < 1000000 then D_slowFrom s d (i + 1) else i

def D_slow (s : Int) : Int := D_slowFrom s 37 0

def D_strength (per keeps vol used age : Int) : Int := if age ≥ keeps then 0 else 1000 * (vol * per - 1000 * used) / (vol * per) * (keeps - age) / keeps

def D_sheet (p k c d v u g a : Int) : Int × Int × Int × Int :=
  if D_dev p k c d ∧ D_vol p v u g then (if 1 ≤ a ∧ a ≤ 5000 then (if D_slow (D_strength p k v u g) ≤ 36 ∧ D_vol p v (u + a) g then (v, u + a, g, 0) else (0, 0, 0, 4)) else (0, 0, 0, 2)) else (0, 0, 0, 1)

def D_fill (v u g m : Int) : Int × Int × Int := (v, u * (v - m) / v, g * (v - m) / v)

def D_do1 (p k c d v u g : Int) (x : S161) : Int × Int × Int × Int :=
  if x.f0 = 0 then D_sheet p k c d v u g x.f1 else (if x.f0 = 1 then
    (if D_dev p k c d ∧ D_vol p v u g then (if 0 ≤ x.f1 ∧ x.f1 ≤ 100000 then (if D_vol p v u (g + x.f1) then (v, u, g + x.f1, 0) else (0, 0, 0, 4)) else (0, 0, 0, 2)) else (0, 0, 0, 1))
    else (if D_dev p k c d ∧ D_vol p v u g then (if 0 ≤ x.f1 ∧ x.f1 ≤ v then ((D_fill v u g x.f1).1, (D_fill v u g x.f1).2.1, (D_fill v u g x.f1).2.2, 0) else (0, 0, 0, 2)) else (0, 0, 0, 1)))

def D_run (p k c d : Int) : List S161 → Int → Int → Int → List S73 × Int
  | [], _, _, _ => ([], 0)
  | x :: r, v, u, g => if (D_do1 p k c d v u g x).2.2.2 = 0 then
      ((⟨(D_do1 p k c d v u g x).1, (D_do1 p k c d v u g x).2.1, (D_do1 p k c d v u g x).2.2.1⟩ : S73) :: (D_run p k c d r (D_do1 p k c d v u g x).1 (D_do1 p k c d v u g x).2.1 (D_do1 p k c d v u g x).2.2.1).1,
        (D_run p k c d r (D_do1 p k c d v u g x).1 (D_do1 p k c d v u g x).2.1 (D_do1 p k c d v u g x).2.2.1).2)
    else ([], (D_do1 p k c d v u g x).2.2.2)

theorem L_mulb {x y X Y : Int} (h : 0 ≤ x) (hx : x ≤ X) (k : 0 ≤ y) (ky : y ≤ Y) : 0 ≤ x * y ∧ x * y ≤ X * Y :=
  ⟨Int.mul_nonneg h k, Int.mul_le_mul hx ky k (Int.le_trans h hx)⟩

theorem L_quot {a b q : Int} (ha : 0 ≤ a) (hb : 0 < b) (h : a ≤ q * b) : 0 ≤ a / b ∧ a / b ≤ q := by
  refine ⟨Int.ediv_nonneg ha (by omega), ?_⟩
  have := Int.ediv_le_ediv hb h
  rwa [Int.mul_ediv_cancel _ (by omega)] at this

theorem L_fillb {x v m X : Int} (hx : 0 ≤ x ∧ x ≤ X) (hv : 1 ≤ v ∧ v ≤ 20000) (hm : 0 ≤ m ∧ m ≤ v) : (0 ≤ x * (v - m) ∧ x * (v - m) ≤ X * 20000) ∧ 0 ≤ x * (v - m) / v ∧ x * (v - m) / v ≤ x := by
  have h1 := L_mulb (x := x) (y := v - m) (X := X) (Y := 20000) hx.1 hx.2 (by omega) (by omega)
  have h2 := L_mulb (x := x) (y := v - m) (X := x) (Y := v) hx.1 (by omega) (by omega) (by omega)
  exact ⟨h1, L_quot h1.1 (by omega) h2.2⟩

theorem L_fillVol {p v u g m : Int} (h : D_vol p v u g) (hm : 0 ≤ m ∧ m ≤ v) : D_vol p (D_fill v u g m).1 (D_fill v u g m).2.1 (D_fill v u g m).2.2 := by
  unfold D_vol at h ⊢
  have h1 := L_fillb (x := u) (v := v) (m := m) (X := 100000000) (by omega) (by omega) hm
  have h2 := L_fillb (x := g) (v := v) (m := m) (X := 100000) (by omega) (by omega) hm
  unfold D_fill
  dsimp only
  omega

theorem L_do1Vol {p k c d v u g : Int} (x : S161) (hV : D_vol p v u g) (h : (D_do1 p k c d v u g x).2.2.2 = 0) : D_vol p (D_do1 p k c d v u g x).1 (D_do1 p k c d v u g x).2.1 (D_do1 p k c d v u g x).2.2.1 := by
  unfold D_do1 at *
  by_cases h0 : x.f0 = 0
  · simp only [if_pos h0] at *
    unfold D_sheet at *
    split at h
    · rename_i h1
      simp only [if_pos h1]
      split at h
      · rename_i h2
        simp only [if_pos h2]
        split at h
        · rename_i h3
          simp only [if_pos h3]
          exact h3.2
        · simp at h
      · simp at h
    · simp at h
  · simp only [if_neg h0] at *
    by_cases h1 : x.f0 = 1
    · simp only [if_pos h1] at *
      split at h
      · rename_i h1
        simp only [if_pos h1]
        split at h
        · rename_i h2
          simp only [if_pos h2]
          split at h
          · rename_i h3
            simp only [if_pos h3]
            exact h3
          · simp at h
        · simp at h
      · simp at h
    · simp only [if_neg h1] at *
      split at h
      · rename_i h1
        simp only [if_pos h1]
        split at h
        · rename_i h2
          simp only [if_pos h2]
          exact L_fillVol hV h2
        · simp at h
      · simp at h

theorem L_runFacts (p k c d : Int) : ∀ (l : List S161) (v u g : Int), D_vol p v u g → (D_run p k c d l v u g).1.length ≤ l.length ∧ (∀ b ∈ (D_run p k c d l v u g).1, D_vol p b.f0 b.f1 b.f2)
  | [], v, u, g, _ => by simp [D_run]
  | x :: r, v, u, g, hV => by
    unfold D_run
    by_cases h : (D_do1 p k c d v u g x).2.2.2 = 0
    · rw [if_pos h]
      have h1 := L_do1Vol x hV h
      obtain ⟨a, b⟩ := L_runFacts p k c d r _ _ _ h1
      refine ⟨by simpa using a, fun y hy => ?_⟩
      rcases List.mem_cons.1 hy with rfl | hy
      · exact h1
      · exact b y hy
    · rw [if_neg h]; simp

theorem L_sd {p q : Prop} [Decidable p] [Decidable q] (h : p ↔ q) : some (decide p) = some (decide q) := by rw [decide_eq_decide.mpr h]

theorem L_sf {q : Prop} [Decidable q] (h : ¬ q) : some false = some (decide q) := by rw [decide_eq_false h]

theorem L_in (a b c : Int) : spec_l00In.f a b c = some (decide (b ≤ a ∧ a ≤ c)) := by
  unfold spec_l00In.f
  split
  · exact L_sd (by omega)
  · exact L_sf (by omega)

theorem L_specDev {a b c d : Int} (hc : -128 ≤ c ∧ c ≤ 127) (hd : -128 ≤ d ∧ d ≤ 127) : spec_l04Developer.f a b c d = some (decide (D_dev a b c d)) := by
  unfold spec_l04Developer.f
  rw [L_w (x := c) (by omega), L_w (x := d) (by omega)]
  simp only [L_in, Option.bind_some, decide_eq_true_eq]
  unfold D_dev
  repeat' split
  all_goals first | exact L_sd (by omega) | exact L_sf (by omega)

theorem L_specOk {a b c d v u g : Int} (hc : -128 ≤ c ∧ c ≤ 127) (hd : -128 ≤ d ∧ d ≤ 127) : spec_l04Ok.f a b c d v u g = some (decide (D_dev a b c d ∧ D_vol a v u g)) := by
  unfold spec_l04Ok.f
  rw [L_specDev hc hd]
  simp only [L_in, Option.bind_some, decide_eq_true_eq]
  by_cases hD : D_dev a b c d
  · have hDD := hD
    unfold D_dev at hDD
    rw [if_pos hD]
    by_cases h1 : 1 ≤ v ∧ v ≤ 20000
    · by_cases h2 : 0 ≤ u ∧ u ≤ 100000000
      · by_cases h3 : 0 ≤ g ∧ g ≤ 100000
        · rw [if_pos h1, if_pos h2, if_pos h3]
          have := L_mulb (x := v) (y := a) (X := 20000) (Y := 100000) (by omega) (by omega) (by omega) (by omega)
          rw [L_w (x := 1000 * u) (by omega), L_w (x := v * a) (by omega)]
          refine L_sd ?_
          unfold D_vol
          constructor
          · intro h; exact ⟨hD, by omega⟩
          · intro h; omega
        · rw [if_pos h1, if_pos h2, if_neg h3]; refine L_sf ?_; unfold D_vol; omega
      · rw [if_pos h1, if_neg h2]; refine L_sf ?_; unfold D_vol; omega
    · rw [if_neg h1]; refine L_sf ?_; unfold D_vol; omega
  · rw [if_neg hD]; exact L_sf (fun h => hD h.1)

theorem L_rdAS {l : List S161} {i : Int} (h0 : 0 ≤ i) (h : i < l.length) : ∃ hi : i.toNat < l.length, rd_T161 l i = l[i.toNat]'hi :=
  ⟨by omega, by unfold rd_T161; rw [List.getD_eq_getElem?_getD, List.getElem?_eq_getElem (by omega)]; rfl⟩

theorem L_kindsLoop (l : List S161) (h8 : D_actB l) (hn : l.length ≤ 140737488351232) (d : Nat) : ∀ (k : Nat) (i : Int), 0 ≤ i → i + d = l.length → d < k →
    spec_l04Kinds.l0 k l i = some (decide (∀ x ∈ l.drop i.toNat, 0 ≤ x.f0 ∧ x.f0 ≤ 2)) := by
  induction d with
  | zero =>
    intro k i h0 hd hk
    obtain ⟨k, rfl⟩ : ∃ m, k = m + 1 := ⟨k - 1, by omega⟩
    simp only [spec_l04Kinds.l0]
    rw [if_neg (by omega), List.drop_eq_nil_of_le (by omega)]
    rfl
  | succ d ih =>
    intro k i h0 hd hk
    obtain ⟨k, rfl⟩ : ∃ m, k = m + 1 := ⟨k - 1, by omega⟩
    obtain ⟨hi, e⟩ := L_rdAS (l := l) (i := i) h0 (by omega)
    have h1 := h8 _ (List.getElem_mem hi)
    rw [← e] at h1
    simp only [spec_l04Kinds.l0]
    rw [if_pos (by omega), if_pos h0, L_w (x := i + 1) (by omega), L_w (x := (rd_T161 l i).f0) (by omega), L_in, List.drop_eq_getElem_cons hi, ← e]
    simp only [Option.bind_some, decide_eq_true_eq]
    split
    · rename_i hx
      rw [ih k (i + 1) (by omega) (by omega) (by omega), show (i + 1).toNat = i.toNat + 1 by omega]
      exact L_sd (by simp [hx])
    · rename_i hx
      exact L_sf (fun h => hx (h _ (by simp)))

theorem L_specListed {p k c d v u g : Int} (hc : -128 ≤ c ∧ c ≤ 127) (hd : -128 ≤ d ∧ d ≤ 127) (l : List S161) (h8 : D_actB l) (hn : l.length ≤ 1048576) {n : Nat} (hk : l.length < n) :
    spec_l04Listed.f n p k c d v u g l = some (D_listed p k c d v u g l) := by
  unfold spec_l04Listed.f D_listed
  rw [L_specOk hc hd]
  simp only [Option.bind_some, decide_eq_true_eq]
  split
  · split
    · rfl
    · unfold spec_l04Kinds.f
      rw [L_kindsLoop l h8 (by omega) l.length n 0 (by omega) (by omega) hk]
      simp only [Option.bind_some, decide_eq_true_eq]
      by_cases h : D_kinds l
      · rw [if_pos h, if_pos (show ∀ x ∈ l.drop (0 : Int).toNat, 0 ≤ x.f0 ∧ x.f0 ≤ 2 from h)]
      · rw [if_neg h, if_neg (show ¬ ∀ x ∈ l.drop (0 : Int).toNat, 0 ≤ x.f0 ∧ x.f0 ≤ 2 from h)]
  · rfl

theorem L_within (a b c : Int) : impl_within.f a b c = some (decide (b ≤ a ∧ a ≤ c)) := by
  unfold impl_within.f
  split
  · exact L_sd (by omega)
  · exact L_sf (by omega)

theorem L_implDev {a b c d : Int} (hc : -128 ≤ c ∧ c ≤ 127) (hd : -128 ≤ d ∧ d ≤ 127) : impl_ValidDeveloper.f a b c d = some (decide (D_dev a b c d)) := by
  unfold impl_ValidDeveloper.f
  rw [L_w (x := c) (by omega), L_w (x := d) (by omega)]
  simp only [L_within, Option.bind_some, decide_eq_true_eq]
  unfold D_dev
  repeat' split
  all_goals first | exact L_sd (by omega) | exact L_sf (by omega)

theorem L_isVolume (v : Int) : impl_isVolume.f v = some (decide (1 ≤ v ∧ v ≤ 20000)) := by
  unfold impl_isVolume.f; rw [L_within]; rfl

theorem L_isBath {a b c d v u g : Int} (hD : D_dev a b c d) : impl_isBath.f a b c d v u g = some (decide (D_vol a v u g)) := by
  unfold impl_isBath.f
  simp only [L_isVolume, L_within, Option.bind_some, decide_eq_true_eq]
  have hDD := hD
  unfold D_dev at hDD
  by_cases h1 : 1 ≤ v ∧ v ≤ 20000
  · by_cases h2 : 0 ≤ u ∧ u ≤ 100000000
    · by_cases h3 : 0 ≤ g ∧ g ≤ 100000
      · rw [if_pos h1, if_pos h2, if_pos h3]
        have := L_mulb (x := v) (y := a) (X := 20000) (Y := 100000) (by omega) (by omega) (by omega) (by omega)
        rw [L_w (x := 1000 * u) (by omega), L_w (x := v * a) (by omega)]
        refine L_sd ?_
        unfold D_vol
        constructor
        · intro h; omega
        · intro h; omega
      · rw [if_pos h1, if_pos h2, if_neg h3]; refine L_sf ?_; unfold D_vol; omega
    · rw [if_pos h1, if_neg h2]; refine L_sf ?_; unfold D_vol; omega
  · rw [if_neg h1]; refine L_sf ?_; unfold D_vol; omega

theorem L_implBath {a b c d v u g : Int} (hc : -128 ≤ c ∧ c ≤ 127) (hd : -128 ≤ d ∧ d ≤ 127) : impl_ValidBath.f a b c d v u g = some (decide (D_dev a b c d ∧ D_vol a v u g)) := by
  unfold impl_ValidBath.f
  rw [L_implDev hc hd]
  simp only [Option.bind_some, decide_eq_true_eq]
  by_cases hD : D_dev a b c d
  · rw [if_pos hD, L_isBath hD]
    exact L_sd (by simp [hD])
  · rw [if_neg hD]; exact L_sf (fun h => hD h.1)

theorem L_idxAnyOn {α : Type} (q : α → Option Bool) (p : α → Bool) : ∀ (l : List α) (i : Int), (∀ x ∈ l, q x = some (p x)) → 0 ≤ i → ∃ r, D_idx q l i = some r ∧ (l.any p = false → r = -1) ∧ (l.any p = true → 0 ≤ r)
  | [], i, _, hi => ⟨-1, rfl, fun _ => rfl, fun h => by simp at h⟩
  | x :: t, i, h, hi => by
    simp only [D_idx, h x (by simp), Option.bind_some]
    by_cases hx : p x = true
    · rw [if_pos hx]
      exact ⟨i, rfl, fun h => by simp [hx] at h, fun _ => hi⟩
    · rw [if_neg hx]
      obtain ⟨r, h1, h2, h3⟩ := L_idxAnyOn q p t (i + 1) (fun y hy => h y (by simp [hy])) (by omega)
      refine ⟨r, h1, fun h => h2 (by simpa [hx] using h), fun h => h3 (by simpa [hx] using h)⟩

theorem L_anyIff {α : Type} (P : α → Prop) [DecidablePred P] (l : List α) (r : Int) (h2 : l.any (fun x => !decide (P x)) = false → r = -1) (h3 : l.any (fun x => !decide (P x)) = true → 0 ≤ r) [Decidable (∀ x ∈ l, P x)] :
    decide (0 ≤ r) = !decide (∀ x ∈ l, P x) := by
  by_cases h : ∀ x ∈ l, P x
  · have e : l.any (fun x => !decide (P x)) = false := by rw [List.any_eq_false]; intro x hx; simp [h x hx]
    rw [h2 e, decide_eq_true h]
    rfl
  · have e : l.any (fun x => !decide (P x)) = true := by
      rw [List.any_eq_true]
      obtain ⟨x, hx⟩ := Classical.not_forall.1 h
      obtain ⟨hx, hh⟩ := Classical.not_imp.1 hx
      exact ⟨x, hx, by simp only [Bool.not_eq_true', decide_eq_false_iff_not]; exact hh⟩
    rw [decide_eq_false h, decide_eq_true (h3 e)]
    rfl


theorem L_implKinds (l : List S161) (h8 : D_actB l) : impl_areKinds.f l = some (decide (D_kinds l)) := by
  unfold impl_areKinds.f impl_Act_197.f impl_Act_203.f
  rw [if_pos rfl]
  obtain ⟨r, h1, h2, h3⟩ := L_idxAnyOn (fun x : S161 => impl_areKinds_1.f x.f0 x.f1) (fun x => !decide (0 ≤ x.f0 ∧ x.f0 ≤ 2)) l 0 (fun x hx => by
    have := h8 x hx
    unfold impl_areKinds_1.f
    rw [L_w (x := x.f0) (by omega), L_within]; rfl) (by omega)
  rw [h1]
  simp only [Option.bind_some]
  rw [L_anyIff (fun x : S161 => 0 ≤ x.f0 ∧ x.f0 ≤ 2) l r h2 h3]
  simp only [Bool.not_not]
  rfl

theorem L_implListed {p k c d v u g : Int} (hc : -128 ≤ c ∧ c ≤ 127) (hd : -128 ≤ d ∧ d ≤ 127) (l : List S161) (h8 : D_actB l) :
    impl_actsCode.f p k c d v u g l = some (D_listed p k c d v u g l) := by
  unfold impl_actsCode.f D_listed
  rw [L_implBath hc hd, L_implKinds l h8]
  simp only [Option.bind_some, decide_eq_true_eq]
  split
  · split
    · rfl
    · split <;> rfl
  · rfl

theorem L_strengthParts {p k v u g : Int} {a b c d : Int} (hD : D_dev p k c d) (hV : D_vol p v u g) (hg : g < k) :
    (0 < v * p ∧ v * p ≤ 2000000000) ∧ (0 ≤ 1000 * (v * p - 1000 * u) / (v * p) ∧ 1000 * (v * p - 1000 * u) / (v * p) ≤ 1000) ∧
    (0 ≤ 1000 * (v * p - 1000 * u) / (v * p) * (k - g) ∧ 1000 * (v * p - 1000 * u) / (v * p) * (k - g) ≤ 1000 * k) := by
  unfold D_dev at hD
  unfold D_vol at hV
  have h1 := L_mulb (x := v) (y := p) (X := 20000) (Y := 100000) (by omega) (by omega) (by omega) (by omega)
  have h2 : 0 < v * p := Int.mul_pos (by omega) (by omega)
  have h3 := L_quot (a := 1000 * (v * p - 1000 * u)) (b := v * p) (q := 1000) (by omega) h2 (by omega)
  have h4 := L_mulb (x := 1000 * (v * p - 1000 * u) / (v * p)) (y := k - g) (X := 1000) (Y := k) h3.1 h3.2 (by omega) (by omega)
  exact ⟨⟨h2, by omega⟩, h3, h4⟩

theorem L_strengthRange {p k v u g c d : Int} (hD : D_dev p k c d) (hV : D_vol p v u g) : 0 ≤ D_strength p k v u g ∧ D_strength p k v u g ≤ 1000 := by
  unfold D_strength
  split
  · omega
  · rename_i hg
    have hh := L_strengthParts (a := 0) (b := 0) hD hV (by omega)
    unfold D_dev at hD
    exact L_quot hh.2.2.1 (by omega) hh.2.2.2

theorem L_slowFrom (s : Int) (d : Nat) : ∀ i : Int, 0 ≤ i → i + d = 37 → i ≤ D_slowFrom s d i ∧ D_slowFrom s d i ≤ 37 ∧ (∀ j, i ≤ j → j < D_slowFrom s d i → tmv j * s < 1000000) ∧ (D_slowFrom s d i ≤ 36 → 1000000 ≤ tmv (D_slowFrom s d i) * s) := by
  induction d with
  | zero => intro i h0 hd; unfold D_slowFrom; exact ⟨by omega, by omega, fun j h1 h2 => by omega, fun h => by omega⟩
  | succ d ih =>
    intro i h0 hd
    unfold D_slowFrom
    split
    · rename_i hlt
      obtain ⟨h1, h2, h3, h4⟩ := ih (i + 1) (by omega) (by omega)
      refine ⟨by omega, h2, fun j hj hj2 => ?_, h4⟩
      by_cases e : j = i
      · rw [e]; exact hlt
      · exact h3 j (by omega) hj2
    · rename_i hge
      exact ⟨by omega, by omega, fun j h1 h2 => by omega, fun _ => by omega⟩

theorem L_slowRange (s : Int) : 0 ≤ D_slow s ∧ D_slow s ≤ 37 := by
  have := L_slowFrom s 37 0 (by omega) (by omega)
  exact ⟨this.1, this.2.1⟩

theorem L_specStrength {p k v u g c d : Int} (hD : D_dev p k c d) (hV : D_vol p v u g) : spec_l04Strength.f p k c d v u g = some (D_strength p k v u g) := by
  unfold spec_l04Strength.f D_strength
  by_cases hg : g ≥ k
  · rw [if_pos hg, if_pos hg]
  · rw [if_neg hg, if_neg hg]
    obtain ⟨h1, h2, h3⟩ := L_strengthParts (a := 0) (b := 0) hD hV (by omega)
    unfold D_dev at hD
    unfold D_vol at hV
    have h4 := L_quot h3.1 (show 0 < k by omega) h3.2
    rw [L_w (x := v * p) (by omega), if_neg (by omega), if_neg (by omega), L_w (x := 1000 * u) (by omega), L_w (x := v * p - 1000 * u) (by omega), L_w (x := 1000 * (v * p - 1000 * u)) (by omega),
      Int.tdiv_eq_ediv_of_nonneg (a := 1000 * (v * p - 1000 * u)) (by omega), L_w (x := 1000 * (v * p - 1000 * u) / (v * p)) (by omega), L_w (x := k - g) (by omega),
      L_w (x := 1000 * (v * p - 1000 * u) / (v * p) * (k - g)) (by omega), Int.tdiv_eq_ediv_of_nonneg h3.1, L_w (by omega)]

theorem L_specTimeAll : ∀ n : Nat, n < 37 → spec_l01Time.f n = some (tmv n) := by decide +kernel

theorem L_specTime {k : Int} (h : 0 ≤ k ∧ k ≤ 36) : spec_l01Time.f k = some (tmv k) := by
  obtain ⟨n, rfl⟩ : ∃ n : Nat, k = n := ⟨k.toNat, by omega⟩
  exact L_specTimeAll n (by omega)

theorem L_tmvAll : ∀ n : Nat, n < 37 → 1000 ≤ tmv n ∧ tmv n ≤ 4096000 := by decide

theorem L_tmv {k : Int} (h : 0 ≤ k ∧ k ≤ 36) : 1000 ≤ tmv k ∧ tmv k ≤ 4096000 := by
  obtain ⟨n, rfl⟩ : ∃ n : Nat, k = n := ⟨k.toNat, by omega⟩
  exact L_tmvAll n (by omega)

theorem L_tms {k s : Int} (h : 0 ≤ k ∧ k ≤ 36) (hs : 0 ≤ s ∧ s ≤ 1000) : wrap64 (tmv k * s) = tmv k * s := by
  have h1 := L_tmv h
  have h2 := L_mulb (x := tmv k) (y := s) (X := 4096000) (Y := 1000) (by omega) (by omega) hs.1 hs.2
  exact L_w (by omega)

theorem L_specSlowFrom {s : Int} (hs : 0 ≤ s ∧ s ≤ 1000) (d : Nat) : ∀ (k : Nat) (i : Int), 0 ≤ i → i + d = 37 → d < k → spec_l04Slower.l0 k s i = some (if D_slowFrom s d i ≤ 36 then D_slowFrom s d i else -1) := by
  induction d with
  | zero =>
    intro k i h0 hd hk
    obtain ⟨k, rfl⟩ : ∃ m, k = m + 1 := ⟨k - 1, by omega⟩
    have e : D_slowFrom s 0 i = i := rfl
    simp only [spec_l04Slower.l0]
    rw [if_neg (by omega), e, if_neg (by omega)]
  | succ d ih =>
    intro k i h0 hd hk
    obtain ⟨k, rfl⟩ : ∃ m, k = m + 1 := ⟨k - 1, by omega⟩
    simp only [spec_l04Slower.l0]
    rw [if_pos (by omega), L_specTime (by omega)]
    simp only [Option.bind_some]
    rw [L_tms (by omega) hs]
    by_cases h : tmv i * s < 1000000
    · have e : D_slowFrom s (d + 1) i = D_slowFrom s d (i + 1) := by simp only [D_slowFrom]; rw [if_pos h]
      rw [if_neg (by omega), L_w (x := i + 1) (by omega), e]
      exact ih k (i + 1) (by omega) (by omega) (by omega)
    · have e : D_slowFrom s (d + 1) i = i := by simp only [D_slowFrom]; rw [if_neg h]
      rw [if_pos (by omega), e, if_pos (by omega)]

theorem L_specSlower {s : Int} (hs : 0 ≤ s ∧ s ≤ 1000) {k : Nat} (hk : 38 ≤ k) : spec_l04Slower.f k s = some (if D_slow s ≤ 36 then D_slow s else -1) :=
  L_specSlowFrom hs 37 k 0 (by omega) (by omega) (by omega)

theorem L_specSheet {p k c d v u g a : Int} (hc : -128 ≤ c ∧ c ≤ 127) (hd : -128 ≤ d ∧ d ≤ 127) (hD : D_dev p k c d) (hV : D_vol p v u g) (ha : 1 ≤ a ∧ a ≤ 5000) {n : Nat} (hn : 38 ≤ n) :
    spec_l04Sheet.f n p k c d v u g a = some (if D_slow (D_strength p k v u g) ≤ 36 then (v, u + a, g, decide (D_vol p v (u + a) g)) else (0, 0, 0, false)) := by
  unfold spec_l04Sheet.f
  have hs := L_strengthRange hD hV
  have hr := L_slowRange (D_strength p k v u g)
  have hv := hV
  unfold D_vol at hv
  rw [L_specStrength hD hV]
  simp only [Option.bind_some]
  rw [L_specSlower hs hn]
  simp only [Option.bind_some]
  by_cases h : D_slow (D_strength p k v u g) ≤ 36
  · rw [if_pos h, if_neg (by omega), L_w (x := u + a) (by omega), L_specOk hc hd, if_pos h]
    simp [hD]
  · rw [if_neg h, if_pos (by omega), if_neg h]

theorem L_specDevSheet {p k c d v u g a : Int} (hc : -128 ≤ c ∧ c ≤ 127) (hd : -128 ≤ d ∧ d ≤ 127) {n : Nat} (hn : 38 ≤ n) : spec_DevelopSheet.f n p k c d v u g a = some (D_sheet p k c d v u g a) := by
  unfold spec_DevelopSheet.f D_sheet
  rw [L_specOk hc hd, L_in]
  simp only [Option.bind_some, decide_eq_true_eq]
  by_cases h : D_dev p k c d ∧ D_vol p v u g
  · rw [if_pos h, if_pos h]
    by_cases h1 : 1 ≤ a ∧ a ≤ 5000
    · rw [if_pos h1, if_pos h1, L_specSheet hc hd h.1 h.2 h1 hn]
      simp only [Option.bind_some]
      by_cases h2 : D_slow (D_strength p k v u g) ≤ 36
      · rw [if_pos h2]
        by_cases h3 : D_vol p v (u + a) g
        · simp [h2, h3]
        · simp [h3]
      · rw [if_neg h2]
        simp [h2]
    · rw [if_neg h1, if_neg h1]
  · rw [if_neg h, if_neg h]

theorem L_specRest {p k c d v u g m : Int} (hc : -128 ≤ c ∧ c ≤ 127) (hd : -128 ≤ d ∧ d ≤ 127) :
    spec_RestBath.f p k c d v u g m = some (if D_dev p k c d ∧ D_vol p v u g then (if 0 ≤ m ∧ m ≤ 100000 then (if D_vol p v u (g + m) then (v, u, g + m, 0) else (0, 0, 0, 4)) else (0, 0, 0, 2)) else (0, 0, 0, 1)) := by
  unfold spec_RestBath.f
  rw [L_specOk hc hd, L_specOk hc hd, L_in]
  simp only [Option.bind_some, decide_eq_true_eq]
  split
  · rename_i h
    have hv := h.2
    unfold D_vol at hv
    split
    · rename_i hm
      rw [L_w (x := g + m) (by omega)]
      by_cases hh : D_vol p v u (g + m)
      · rw [if_pos ⟨h.1, hh⟩, if_pos hh]
      · rw [if_neg (fun x => hh x.2), if_neg hh]
    · rfl
  · rfl

theorem L_specFill {p v u g m : Int} (h : D_vol p v u g) (hm : 0 ≤ m ∧ m ≤ v) : spec_l04Fill.f v u g m = some (D_fill v u g m) := by
  unfold D_vol at h
  have h1 := L_fillb (x := u) (v := v) (m := m) (X := 100000000) (by omega) (by omega) hm
  have h2 := L_fillb (x := g) (v := v) (m := m) (X := 100000) (by omega) (by omega) hm
  unfold spec_l04Fill.f D_fill
  rw [if_neg (by omega), L_w (x := v - m) (by omega), L_w (x := u * (v - m)) (by omega), L_w (x := g * (v - m)) (by omega), Int.tdiv_eq_ediv_of_nonneg h1.1.1, Int.tdiv_eq_ediv_of_nonneg h2.1.1,
    L_w (x := u * (v - m) / v) (by omega), L_w (x := g * (v - m) / v) (by omega)]

theorem L_specReplenish {p k c d v u g m : Int} (hc : -128 ≤ c ∧ c ≤ 127) (hd : -128 ≤ d ∧ d ≤ 127) :
    spec_Replenish.f p k c d v u g m = some (if D_dev p k c d ∧ D_vol p v u g then (if 0 ≤ m ∧ m ≤ v then ((D_fill v u g m).1, (D_fill v u g m).2.1, (D_fill v u g m).2.2, 0) else (0, 0, 0, 2)) else (0, 0, 0, 1)) := by
  unfold spec_Replenish.f
  rw [L_specOk hc hd, L_in]
  simp only [Option.bind_some, decide_eq_true_eq]
  split
  · rename_i h
    split
    · rename_i hm; rw [L_specFill h.2 hm]; rfl
    · rfl
  · rfl

theorem L_specAct {p k c d v u g : Int} (hc : -128 ≤ c ∧ c ≤ 127) (hd : -128 ≤ d ∧ d ≤ 127) (x : S161) {n : Nat} (hn : 38 ≤ n) : spec_l04Act.f n p k c d v u g x.f0 x.f1 = some (D_do1 p k c d v u g x) := by
  unfold spec_l04Act.f D_do1
  rw [L_specDevSheet hc hd hn, L_specRest hc hd, L_specReplenish hc hd]
  simp only [Option.bind_some]
  split
  · rfl
  · split <;> rfl

theorem L_specDo {p k c d : Int} (hc : -128 ≤ c ∧ c ≤ 127) (hd : -128 ≤ d ∧ d ≤ 127) (l : List S161) (hn : l.length ≤ 1048576) (e : Nat) : ∀ (n : Nat) (b : List S73) (i v u g : Int), 0 ≤ i → i + e = l.length → e + 40 ≤ n → (b.length : Int) ≤ i + 1 →
    spec_l04Do.l0 n l b i p k c d v u g = some (b ++ (D_run p k c d (l.drop i.toNat) v u g).1, (D_run p k c d (l.drop i.toNat) v u g).2) := by
  induction e with
  | zero =>
    intro n b i v u g h0 hi hk hb
    obtain ⟨n, rfl⟩ : ∃ m, n = m + 1 := ⟨n - 1, by omega⟩
    simp only [spec_l04Do.l0]
    rw [if_neg (by omega), List.drop_eq_nil_of_le (by omega)]; simp [D_run]
  | succ e ih =>
    intro n b i v u g h0 hi hk hb
    obtain ⟨n, rfl⟩ : ∃ m, n = m + 1 := ⟨n - 1, by omega⟩
    obtain ⟨hi', e'⟩ := L_rdAS (l := l) (i := i) h0 (by omega)
    have q : l.drop i.toNat = rd_T161 l i :: l.drop (i + 1).toNat := by rw [List.drop_eq_getElem_cons hi', e', show (i + 1).toNat = i.toNat + 1 by omega]
    simp only [spec_l04Do.l0]
    rw [if_pos (by omega), if_pos h0, L_specAct hc hd _ (by omega), q]
    simp only [Option.bind_some, D_run]
    by_cases h : (D_do1 p k c d v u g (rd_T161 l i)).2.2.2 = 0
    · simp only [if_pos h]
      rw [if_pos (by omega), L_w (x := i + 1) (by omega), ih n (b ++ [_]) (i + 1) _ _ _ (by omega) (by omega) (by omega) (by simp; omega)]
      simp
    · simp only [if_neg h]
      simp

theorem L_specDo0 {p k c d v u g : Int} (hc : -128 ≤ c ∧ c ≤ 127) (hd : -128 ≤ d ∧ d ≤ 127) (l : List S161) (hn : l.length ≤ 1048576) {n : Nat} (hk : l.length + 40 ≤ n) :
    spec_l04Do.f n p k c d v u g l = some ((⟨v, u, g⟩ : S73) :: (D_run p k c d l v u g).1, (D_run p k c d l v u g).2) := by
  unfold spec_l04Do.f
  rw [L_specDo hc hd l hn l.length n _ 0 v u g (by omega) (by omega) hk (by simp)]
  rfl

def D_lastB (v u g : Int) (l : List S73) : S73 := l.getLastD ⟨v, u, g⟩

theorem L_implStrength {p k v u g c d : Int} (hD : D_dev p k c d) (hV : D_vol p v u g) : impl_Bath_strength.f v u g p k c d = some (D_strength p k v u g) := by
  unfold impl_Bath_strength.f D_strength
  have hDD := hD
  have hVV := hV
  unfold D_dev at hDD
  unfold D_vol at hVV
  have h1 := L_mulb (x := v) (y := p) (X := 20000) (Y := 100000) (by omega) (by omega) (by omega) (by omega)
  have h0 : 0 < v * p := Int.mul_pos (by omega) (by omega)
  have h3 := L_quot (a := 1000 * (v * p - 1000 * u)) (b := v * p) (q := 1000) (by omega) h0 (by omega)
  rw [L_w (x := v * p) (by omega), if_neg (by omega), if_neg (by omega), L_w (x := 1000 * u) (by omega), L_w (x := v * p - 1000 * u) (by omega), L_w (x := 1000 * (v * p - 1000 * u)) (by omega),
      Int.tdiv_eq_ediv_of_nonneg (a := 1000 * (v * p - 1000 * u)) (by omega), L_w (x := 1000 * (v * p - 1000 * u) / (v * p)) (by omega), L_w (x := k - g) (by omega)]
  by_cases hg : g ≥ k
  · rw [if_pos hg, show mx 0 (k - g) = 0 by unfold mx; omega, Int.mul_zero]
    simp [wrap64]
  · obtain ⟨_, h2, h3⟩ := L_strengthParts (a := 0) (b := 0) hD hV (by omega)
    have h4 := L_quot h3.1 (show 0 < k by omega) h3.2
    rw [if_neg hg, show mx 0 (k - g) = k - g by unfold mx; omega, L_w (x := 1000 * (v * p - 1000 * u) / (v * p) * (k - g)) (by omega), Int.tdiv_eq_ediv_of_nonneg h3.1, L_w (by omega)]

theorem L_isArea (a : Int) : impl_isArea.f a = some (decide (1 ≤ a ∧ a ≤ 5000)) := by unfold impl_isArea.f; rw [L_within]; rfl

theorem L_areThirds (a : Int) : impl_areThirds.f a = some (decide (0 ≤ a ∧ a ≤ 36)) := by
  unfold impl_areThirds.f; rw [L_within]; rfl

theorem L_timeOf {k : Int} (h : 0 ≤ k ∧ k ≤ 36) : impl_timeOf.f k = some (tmv k) := by
  unfold impl_timeOf.f; rw [if_pos h.1, if_pos h.2]

theorem L_implSlowFrom {s : Int} (hs : 0 ≤ s ∧ s ≤ 1000) (d : Nat) : ∀ (k : Nat) (i : Int), 0 ≤ i → i + d = 37 → d < k → impl_slower.l0 k s i = some (D_slowFrom s d i) := by
  induction d with
  | zero =>
    intro k i h0 hd hk
    obtain ⟨k, rfl⟩ : ∃ m, k = m + 1 := ⟨k - 1, by omega⟩
    simp only [impl_slower.l0, D_slowFrom, L_areThirds, Option.bind_some, decide_eq_true_eq]
    rw [if_neg (by omega)]
  | succ d ih =>
    intro k i h0 hd hk
    obtain ⟨k, rfl⟩ : ∃ m, k = m + 1 := ⟨k - 1, by omega⟩
    simp only [impl_slower.l0, D_slowFrom, L_areThirds, Option.bind_some, decide_eq_true_eq]
    rw [if_pos (by omega), L_timeOf (by omega)]
    simp only [Option.bind_some]
    rw [L_tms (by omega) hs]
    by_cases h : tmv i * s < 1000000
    · rw [if_pos h, L_w (x := i + 1) (by omega), if_pos h]
      exact ih k (i + 1) (by omega) (by omega) (by omega)
    · rw [if_neg h, if_neg h]

theorem L_implSlower {s : Int} (hs : 0 ≤ s ∧ s ≤ 1000) {k : Nat} (hk : 38 ≤ k) : impl_slower.f k s = some (D_slow s) :=
  L_implSlowFrom hs 37 k 0 (by omega) (by omega) (by omega)

theorem L_checked {p k c d v u g e : Int} (hD : D_dev p k c d) : impl_checked.f p k c d v u g e = some (if D_vol p v u g then (v, u, g, 0) else (0, 0, 0, e)) := by
  unfold impl_checked.f
  rw [L_isBath hD]
  simp only [Option.bind_some, decide_eq_true_eq]
  split <;> rfl

theorem L_implDevSheet {p k c d v u g a : Int} (hc : -128 ≤ c ∧ c ≤ 127) (hd : -128 ≤ d ∧ d ≤ 127) {n : Nat} (hn : 38 ≤ n) : impl_DevelopSheet.f n p k c d v u g a = some (D_sheet p k c d v u g a) := by
  unfold impl_DevelopSheet.f D_sheet
  rw [L_implBath hc hd, L_isArea]
  simp only [Option.bind_some, decide_eq_true_eq]
  by_cases h : D_dev p k c d ∧ D_vol p v u g
  · rw [if_pos h, if_pos h]
    by_cases h1 : 1 ≤ a ∧ a ≤ 5000
    · rw [if_pos h1, if_pos h1, L_implStrength h.1 h.2]
      have hs := L_strengthRange h.1 h.2
      have hr := L_slowRange (D_strength p k v u g)
      have hv := h.2
      unfold D_vol at hv
      simp only [Option.bind_some]
      rw [L_implSlower hs hn]
      simp only [Option.bind_some, L_areThirds, decide_eq_true_eq]
      rw [L_w (x := u + a) (by omega), L_checked h.1]
      simp only [Option.bind_some]
      by_cases h2 : D_slow (D_strength p k v u g) ≤ 36
      · rw [if_pos ⟨hr.1, h2⟩]
        by_cases h3 : D_vol p v (u + a) g
        · rw [if_pos h3, if_pos ⟨h2, h3⟩]
        · rw [if_neg h3, if_neg (fun x => h3 x.2)]
      · rw [if_neg (by omega), if_neg (fun x => h2 x.1)]
    · rw [if_neg h1, if_neg h1]
  · rw [if_neg h, if_neg h]

theorem L_implRest {p k c d v u g m : Int} (hc : -128 ≤ c ∧ c ≤ 127) (hd : -128 ≤ d ∧ d ≤ 127) :
    impl_RestBath.f p k c d v u g m = some (if D_dev p k c d ∧ D_vol p v u g then (if 0 ≤ m ∧ m ≤ 100000 then (if D_vol p v u (g + m) then (v, u, g + m, 0) else (0, 0, 0, 4)) else (0, 0, 0, 2)) else (0, 0, 0, 1)) := by
  unfold impl_RestBath.f
  rw [L_implBath hc hd, L_within]
  simp only [Option.bind_some, decide_eq_true_eq]
  split
  · rename_i h
    have hv := h.2
    unfold D_vol at hv
    split
    · rename_i hm
      rw [L_w (x := g + m) (by omega), L_checked h.1]
      simp only [Option.bind_some]
    · rfl
  · rfl

theorem L_implFill {p v u g m : Int} (h : D_vol p v u g) (hm : 0 ≤ m ∧ m ≤ v) : impl_Bath_replenished.f v u g m = some (D_fill v u g m) := by
  unfold D_vol at h
  have h1 := L_fillb (x := u) (v := v) (m := m) (X := 100000000) (by omega) (by omega) hm
  have h2 := L_fillb (x := g) (v := v) (m := m) (X := 100000) (by omega) (by omega) hm
  unfold impl_Bath_replenished.f D_fill
  rw [if_neg (by omega), L_w (x := v - m) (by omega), L_w (x := u * (v - m)) (by omega), L_w (x := g * (v - m)) (by omega), Int.tdiv_eq_ediv_of_nonneg h1.1.1, Int.tdiv_eq_ediv_of_nonneg h2.1.1,
    L_w (x := u * (v - m) / v) (by omega), L_w (x := g * (v - m) / v) (by omega)]

theorem L_implReplenish {p k c d v u g m : Int} (hc : -128 ≤ c ∧ c ≤ 127) (hd : -128 ≤ d ∧ d ≤ 127) :
    impl_Replenish.f p k c d v u g m = some (if D_dev p k c d ∧ D_vol p v u g then (if 0 ≤ m ∧ m ≤ v then ((D_fill v u g m).1, (D_fill v u g m).2.1, (D_fill v u g m).2.2, 0) else (0, 0, 0, 2)) else (0, 0, 0, 1)) := by
  unfold impl_Replenish.f
  rw [L_implBath hc hd, L_within]
  simp only [Option.bind_some, decide_eq_true_eq]
  split
  · rename_i h
    split
    · rename_i hm; rw [L_implFill h.2 hm]; rfl
    · rfl
  · rfl

theorem L_implAct {p k c d v u g : Int} (hc : -128 ≤ c ∧ c ≤ 127) (hd : -128 ≤ d ∧ d ≤ 127) (x : S161) {n : Nat} (hn : 38 ≤ n) : impl_Act_do.f n x.f0 x.f1 p k c d v u g = some (D_do1 p k c d v u g x) := by
  unfold impl_Act_do.f D_do1
  rw [L_implDevSheet hc hd hn, L_implRest hc hd, L_implReplenish hc hd]
  simp only [Option.bind_some]
  split
  · rfl
  · split <;> rfl

theorem L_implDo {p k c d : Int} (hc : -128 ≤ c ∧ c ≤ 127) (hd : -128 ≤ d ∧ d ≤ 127) (hD : D_dev p k c d) (l : List S161) (hn : l.length ≤ 1048576) (e : Nat) : ∀ (n : Nat) (b : List Int) (i v u g : Int), 0 ≤ i → i + e = l.length → e + 40 ≤ n → (b.length : Int) ≤ i + 1 → D_vol p v u g →
    impl_doAll.l0 n l b l (l.length : Int) i p k c d v u g = some ((D_lastB v u g (D_run p k c d (l.drop i.toNat) v u g).1).f0, (D_lastB v u g (D_run p k c d (l.drop i.toNat) v u g).1).f1, (D_lastB v u g (D_run p k c d (l.drop i.toNat) v u g).1).f2,
      i + ((D_run p k c d (l.drop i.toNat) v u g).1.length : Int), b ++ (D_run p k c d (l.drop i.toNat) v u g).1.map (fun x => D_strength p k x.f0 x.f1 x.f2), (D_run p k c d (l.drop i.toNat) v u g).2) := by
  induction e with
  | zero =>
    intro n b i v u g h0 hi hk hb hV
    obtain ⟨n, rfl⟩ : ∃ m, n = m + 1 := ⟨n - 1, by omega⟩
    simp only [impl_doAll.l0]
    rw [if_neg (by omega), List.drop_eq_nil_of_le (by omega)]
    simp [D_run, D_lastB]; omega
  | succ e ih =>
    intro n b i v u g h0 hi hk hb hV
    obtain ⟨n, rfl⟩ : ∃ m, n = m + 1 := ⟨n - 1, by omega⟩
    obtain ⟨hi', e'⟩ := L_rdAS (l := l) (i := i) h0 (by omega)
    have q : l.drop i.toNat = rd_T161 l i :: l.drop (i + 1).toNat := by rw [List.drop_eq_getElem_cons hi', e', show (i + 1).toNat = i.toNat + 1 by omega]
    simp only [impl_doAll.l0]
    rw [if_pos (by omega), if_pos h0, if_pos (by omega), L_implAct hc hd _ (by omega), q]
    simp only [Option.bind_some, D_run]
    by_cases h : (D_do1 p k c d v u g (rd_T161 l i)).2.2.2 = 0
    · have h1 := L_do1Vol _ hV h
      simp only [if_pos h]
      rw [L_implStrength hD h1]
      simp only [Option.bind_some]
      rw [if_pos (by omega), L_w (x := i + 1) (by omega), ih n (b ++ [_]) (i + 1) _ _ _ (by omega) (by omega) (by omega) (by simp; omega) h1]
      simp only [D_lastB, List.getLastD_cons, List.map_cons, List.length_cons, List.append_assoc, List.cons_append, List.nil_append, Option.some.injEq, Prod.mk.injEq, true_and, and_true]
      omega
    · simp only [if_neg h]
      simp [D_lastB]

theorem L_implDo0 {p k c d v u g : Int} (hc : -128 ≤ c ∧ c ≤ 127) (hd : -128 ≤ d ∧ d ≤ 127) (hD : D_dev p k c d) (hV : D_vol p v u g) (l : List S161) (hn : l.length ≤ 1048576) {n : Nat} (hk : l.length + 40 ≤ n) :
    impl_doAll.f n p k c d v u g l = some ((D_lastB v u g (D_run p k c d l v u g).1).f0, (D_lastB v u g (D_run p k c d l v u g).1).f1, (D_lastB v u g (D_run p k c d l v u g).1).f2,
      ((D_run p k c d l v u g).1.length : Int), D_strength p k v u g :: (D_run p k c d l v u g).1.map (fun x => D_strength p k x.f0 x.f1 x.f2), (D_run p k c d l v u g).2) := by
  unfold impl_doAll.f
  rw [L_implStrength hD hV]
  simp only [Option.bind_some]
  rw [L_implDo hc hd hD l hn l.length n _ 0 v u g (by omega) (by omega) hk (by simp) hV]
  simp

theorem L_rdB {l : List S73} {i : Int} (h0 : 0 ≤ i) (h : i < l.length) : ∃ hi : i.toNat < l.length, rd_T73 l i = l[i.toNat]'hi :=
  ⟨by omega, by unfold rd_T73; rw [List.getD_eq_getElem?_getD, List.getElem?_eq_getElem (by omega)]; rfl⟩

theorem L_strengthsLoop {p k c d : Int} (hD : D_dev p k c d) (l : List S73) (hl : ∀ b ∈ l, D_vol p b.f0 b.f1 b.f2) (hn : l.length ≤ 1048577) (e : Nat) : ∀ (n : Nat) (o : List Int) (i : Int), 0 ≤ i → i + e = l.length → e < n → (o.length : Int) ≤ i →
    spec_StrengthsIn.l0 n l o i p k c d = some (o ++ (l.drop i.toNat).map (fun x => D_strength p k x.f0 x.f1 x.f2), 0) := by
  induction e with
  | zero =>
    intro n o i h0 hi hk ho
    obtain ⟨n, rfl⟩ : ∃ m, n = m + 1 := ⟨n - 1, by omega⟩
    simp only [spec_StrengthsIn.l0]
    rw [if_neg (by omega), List.drop_eq_nil_of_le (by omega)]; simp
  | succ e ih =>
    intro n o i h0 hi hk ho
    obtain ⟨n, rfl⟩ : ∃ m, n = m + 1 := ⟨n - 1, by omega⟩
    obtain ⟨hi', e'⟩ := L_rdB (l := l) (i := i) h0 (by omega)
    have q : l.drop i.toNat = rd_T73 l i :: l.drop (i + 1).toNat := by rw [List.drop_eq_getElem_cons hi', e', show (i + 1).toNat = i.toNat + 1 by omega]
    have hV := hl _ (List.getElem_mem hi')
    rw [← e'] at hV
    simp only [spec_StrengthsIn.l0]
    rw [if_pos (by omega), if_pos h0, L_specStrength hD hV, q]
    simp only [Option.bind_some]
    rw [if_pos (by omega), L_w (x := i + 1) (by omega), ih n (o ++ [_]) (i + 1) (by omega) (by omega) (by omega) (by simp; omega)]
    simp

theorem L_strengthsIn {p k c d v u g : Int} (hc : -128 ≤ c ∧ c ≤ 127) (hd : -128 ≤ d ∧ d ≤ 127) (l : List S161) (h8 : D_actB l) (hn : l.length ≤ 1048576) :
    ∃ R m, R.length ≤ l.length + 1 ∧ ∀ n, l.length + 40 ≤ n → spec_StrengthsIn.f n p k c d v u g l = some (R, m) ∧ impl_StrengthsIn.f n p k c d v u g l = some (R, m) := by
  by_cases h : D_listed p k c d v u g l = 0
  · obtain ⟨hD, hV⟩ := L_listed0 h
    obtain ⟨f1, f2⟩ := L_runFacts p k c d l v u g hV
    refine ⟨if (D_run p k c d l v u g).2 = 0 then D_strength p k v u g :: (D_run p k c d l v u g).1.map (fun x => D_strength p k x.f0 x.f1 x.f2) else [], (D_run p k c d l v u g).2, ?_, fun n hk => ?_⟩
    · split <;> simp; omega
    · unfold spec_StrengthsIn.f impl_StrengthsIn.f
      rw [L_specListed hc hd l h8 hn (by omega), L_implListed hc hd l h8]
      simp only [Option.bind_some]
      rw [if_pos h, if_pos h, L_specDo0 hc hd l hn hk, L_implDo0 hc hd hD hV l hn hk]
      simp only [Option.bind_some]
      by_cases h2 : (D_run p k c d l v u g).2 = 0
      · rw [if_pos h2, if_pos h2, if_pos h2]
        rw [L_strengthsLoop hD _ (fun b hb => by
          rcases List.mem_cons.1 hb with rfl | hb
          · exact hV
          · exact f2 b hb) (by simp; omega) ((D_run p k c d l v u g).1.length + 1) n [] 0 (by omega) (by simp) (by omega) (by simp), h2]
        simp
      · rw [if_neg h2, if_neg h2, if_neg h2]; exact ⟨rfl, rfl⟩
  · refine ⟨[], D_listed p k c d v u g l, by simp, fun n hk => ?_⟩
    unfold spec_StrengthsIn.f impl_StrengthsIn.f
    rw [L_specListed hc hd l h8 hn (by omega), L_implListed hc hd l h8]
    simp only [Option.bind_some]
    rw [if_neg h, if_neg h]; exact ⟨rfl, rfl⟩


theorem L_markI (n : Nat) (hn : n ≤ 140737488351232) (d : Nat) : ∀ (k : Nat) (l : List Int) (v i : Int), l.length = n → 0 ≤ i → i + d = n → d < k → 0 ≤ v → v ≤ 281474976702464 + i →
    ∃ l', laws_markInt64S.l0 k l v i = some (v + d, l') ∧ l'.length = n ∧ (∀ j : Int, 0 ≤ j → j < i → rd l' j = rd l j) ∧ (∀ j : Int, i ≤ j → j < n → rd l' j = v + (j - i)) := by
  induction d with
  | zero =>
    intro k l v i hl h0 hd hk hv hv2
    obtain ⟨k, rfl⟩ : ∃ m, k = m + 1 := ⟨k - 1, by omega⟩
    refine ⟨l, ?_, hl, fun _ _ _ => rfl, fun j h1 h2 => by omega⟩
    simp only [laws_markInt64S.l0]; rw [if_neg (by omega)]; simp
  | succ d ih =>
    intro k l v i hl h0 hd hk hv hv2
    obtain ⟨k, rfl⟩ : ∃ m, k = m + 1 := ⟨k - 1, by omega⟩
    obtain ⟨l', e, hl', h1, h2⟩ := ih k (l.set i.toNat v) (v + 1) (i + 1) (by simpa using hl) (by omega) (by omega) (by omega) (by omega) (by omega)
    refine ⟨l', ?_, hl', fun j hj hj2 => ?_, fun j hj hj2 => ?_⟩
    · simp only [laws_markInt64S.l0]; rw [if_pos (by omega), if_pos h0, L_w (x := v + 1) (by omega), L_w (x := i + 1) (by omega), e]
      congr 2; omega
    · rw [h1 j hj (by omega)]
      unfold rd
      rw [List.getD_eq_getElem?_getD, List.getD_eq_getElem?_getD, List.getElem?_set_ne (by omega)]
    · by_cases e2 : j = i
      · subst e2
        rw [h1 j (by omega) (by omega)]
        unfold rd
        rw [List.getD_eq_getElem?_getD, List.getElem?_set_self (by omega)]
        simp
      · rw [h2 j (by omega) hj2]; omega

theorem L_heldI (n : Nat) (hn : n ≤ 140737488351232) (l : List Int) (hl : l.length = n) (d : Nat) : ∀ (k : Nat) (v i : Int), 0 ≤ i → i + d = n → d < k → 0 ≤ v → v ≤ 281474976702464 + i → (∀ j : Int, i ≤ j → j < n → rd l j = v + (j - i)) →
    laws_heldInt64S.l0 k l v i = some (v + d) := by
  induction d with
  | zero =>
    intro k v i h0 hd hk hv hv2 h
    obtain ⟨k, rfl⟩ : ∃ m, k = m + 1 := ⟨k - 1, by omega⟩
    simp only [laws_heldInt64S.l0]; rw [if_neg (by omega)]; simp
  | succ d ih =>
    intro k v i h0 hd hk hv hv2 h
    obtain ⟨k, rfl⟩ : ∃ m, k = m + 1 := ⟨k - 1, by omega⟩
    have h1 := h i (by omega) (by omega)
    simp only [laws_heldInt64S.l0]; rw [if_pos (by omega), if_pos h0, if_pos (by omega), L_w (x := v + 1) (by omega), L_w (x := i + 1) (by omega),
      ih k (v + 1) (i + 1) (by omega) (by omega) (by omega) (by omega) (by omega) (fun j hj hj2 => by rw [h j (by omega) hj2]; omega)]
    congr 1; omega

theorem L_markHeld (l : List Int) (hn : l.length ≤ 140737488351232) : ∃ l', (∀ k, l.length < k → laws_markInt64S.f k l 1 = some (1 + (l.length : Int), l')) ∧ (∀ k, l.length < k → laws_heldInt64S.f k l' 1 = some (1 + (l.length : Int))) := by
  obtain ⟨l', e, hl', _, h2⟩ := L_markI l.length hn l.length (l.length + 1) l 1 0 rfl (by omega) (by omega) (by omega) (by omega) (by omega)
  refine ⟨l', fun k hk => ?_, fun k hk => ?_⟩
  · obtain ⟨l2, e2, hl2, _, h3⟩ := L_markI l.length hn l.length k l 1 0 rfl (by omega) (by omega) hk (by omega) (by omega)
    unfold laws_markInt64S.f
    rw [e2]
    have : l2 = l' := by
      apply List.ext_getElem (by omega)
      intro j hj hj'
      have a := h3 j (by omega) (by omega)
      have b := h2 j (by omega) (by omega)
      unfold rd at a b
      rw [List.getD_eq_getElem?_getD] at a b
      simp only [Int.toNat_natCast] at a b
      rw [List.getElem?_eq_getElem hj] at a
      rw [List.getElem?_eq_getElem hj'] at b
      simp at a b
      omega
    rw [this]
  · unfold laws_heldInt64S.f
    exact L_heldI l.length hn l' hl' l.length k 1 0 (by omega) (by omega) hk (by omega) (by omega) h2

theorem L_eqI (a : List Int) (hn : a.length ≤ 140737488351232) (d : Nat) : ∀ (k : Nat) (i : Int), 0 ≤ i → i + d = a.length → d < k → laws_eqInt64S.l0 k a a i = some true := by
  induction d with
  | zero =>
    intro k i h0 hd hk
    obtain ⟨k, rfl⟩ : ∃ m, k = m + 1 := ⟨k - 1, by omega⟩
    simp only [laws_eqInt64S.l0]; rw [if_neg (by omega)]
  | succ d ih =>
    intro k i h0 hd hk
    obtain ⟨k, rfl⟩ : ∃ m, k = m + 1 := ⟨k - 1, by omega⟩
    simp only [laws_eqInt64S.l0]; rw [if_pos (by omega), if_pos h0, L_w (x := i + 1) (by omega)]
    simp only [if_true]
    rw [if_pos (by omega)]
    exact ih k (i + 1) (by omega) (by omega) (by omega)

theorem L_eqInt64S (a : List Int) (hn : a.length ≤ 140737488351232) {k : Nat} (hk : a.length < k) : laws_eqInt64S.f k a a = some true := by
  unfold laws_eqInt64S.f; rw [if_pos rfl]; exact L_eqI a hn a.length k 0 (by omega) (by omega) hk

theorem L_eqActs (l : List S161) (hn : l.length ≤ 140737488351232) {k : Nat} (hk : l.length < k) : laws_eqActS.f k l l = some true := by
  have H : ∀ (d : Nat) (k : Nat) (i : Int), 0 ≤ i → i + d = l.length → d < k → laws_eqActS.l0 k l l i = some true := by
    intro d
    induction d with
    | zero =>
      intro k i h0 hd hk
      obtain ⟨k, rfl⟩ : ∃ m, k = m + 1 := ⟨k - 1, by omega⟩
      simp only [laws_eqActS.l0]; rw [if_neg (by omega)]
    | succ d ih =>
      intro k i h0 hd hk
      obtain ⟨k, rfl⟩ : ∃ m, k = m + 1 := ⟨k - 1, by omega⟩
      simp only [laws_eqActS.l0, laws_eqAct.f, if_true, Option.bind_some]; rw [if_pos (by omega), if_pos h0, if_pos (by omega), L_w (x := i + 1) (by omega)]
      exact ih k (i + 1) (by omega) (by omega) (by omega)
  unfold laws_eqActS.f; rw [if_pos rfl]; exact H l.length k 0 (by omega) (by omega) hk

theorem L_markActs (n : Nat) (hn : n ≤ 1048576) (d : Nat) : ∀ (k : Nat) (l : List S161) (v i : Int), l.length = n → 0 ≤ i → i + d = n → d < k → 0 ≤ v → v ≤ 1000000000 + 2 * i → ∃ l', laws_markActS.l0 k l v i = some (v + 2 * d, l') := by
  induction d with
  | zero =>
    intro k l v i hl h0 hd hk hv hv2
    obtain ⟨k, rfl⟩ : ∃ m, k = m + 1 := ⟨k - 1, by omega⟩
    refine ⟨l, ?_⟩
    simp only [laws_markActS.l0]; rw [if_neg (by omega)]; simp
  | succ d ih =>
    intro k l v i hl h0 hd hk hv hv2
    obtain ⟨k, rfl⟩ : ∃ m, k = m + 1 := ⟨k - 1, by omega⟩
    simp only [laws_markActS.l0, Option.bind_some]
    rw [if_pos (by omega), if_pos h0, L_w (x := v + 1) (by omega), L_w (x := v + 1 + 1) (by omega), L_w (x := i + 1) (by omega)]
    rw [show v + 2 * ((d + 1 : Nat) : Int) = v + 1 + 1 + 2 * (d : Int) by omega]
    exact ih k _ (v + 1 + 1) (i + 1) (by simpa using hl) (by omega) (by omega) (by omega) (by omega) (by omega)

theorem L_markActsF (l : List S161) (hn : l.length ≤ 1048576) (v : Int) (hv : 0 ≤ v ∧ v ≤ 1000000000) {k : Nat} (hk : l.length < k) : ∃ l', laws_markActS.f k l v = some (v + 2 * l.length, l') := by
  obtain ⟨l', e⟩ := L_markActs l.length hn l.length k l v 0 rfl (by omega) (by omega) hk (by omega) (by omega)
  unfold laws_markActS.f
  exact ⟨l', e⟩

theorem FnExactStrengthsIn : ∀ (a0_0 : Int) (a0_1 : Int) (a0_2 : Int) (a0_3 : Int) (a1_0 : Int) (a1_1 : Int) (a1_2 : Int) (l2 : List S163), -9223372036854775808 ≤ a0_0 → a0_0 ≤ 9223372036854775807 → -9223372036854775808 ≤ a0_1 → a0_1 ≤ 9223372036854775807 → -128 ≤ a0_2 → a0_2 ≤ 127 → -128 ≤ a0_3 → a0_3 ≤ 127 → -9223372036854775808 ≤ a1_0 → a1_0 ≤ 9223372036854775807 → -9223372036854775808 ≤ a1_1 → a1_1 ≤ 9223372036854775807 → -9223372036854775808 ≤ a1_2 → a1_2 ≤ 9223372036854775807 → (∀ x ∈ l2, -128 ≤ x.f0 ∧ x.f0 ≤ 127 ∧ -9223372036854775808 ≤ x.f1 ∧ x.f1 ≤ 9223372036854775807) → l2.length * 16 ≤ 140737488351232 → ∃ k, laws_FnExactStrengthsIn.f k a0_0 a0_1 a0_2 a0_3 a1_0 a1_1 a1_2 l2 = some true := by
  intro p k c d v u g l _ _ _ _ hc hc' hd hd' _ _ _ _ _ _ h8 hl
  have h8' := L_mapAct l h8
  refine ⟨l.length + 100, ?_⟩
  unfold laws_FnExactStrengthsIn.f laws_toDeveloper.f laws_toBath.f
  rw [L_szActs l hl]
  simp only [Option.bind_some]
  by_cases h : 1048576 < (l.length : Int)
  · rw [if_pos h]; rfl
  · rw [if_neg h, if_neg (by omega), L_toActs l (by omega) (by omega)]
    simp only [Option.bind_some]
    obtain ⟨R, m, hR, e⟩ := L_strengthsIn (p := p) (k := k) (v := v) (u := u) (g := g) ⟨hc, hc'⟩ ⟨hd, hd'⟩ (l.map D_act) h8' (by simp <;> omega)
    rw [List.length_map] at hR
    have e' : ∀ n, l.length + 40 ≤ n → spec_StrengthsIn.f n p k c d v u g (l.map D_act) = some (R, m) ∧ impl_StrengthsIn.f n p k c d v u g (l.map D_act) = some (R, m) := fun n hn => e n (by simpa using hn)
    obtain ⟨l', h1, h2⟩ := L_markHeld R (by omega)
    rw [(e' _ (by omega)).1, (e' _ (by omega)).2]
    simp only [Option.bind_some]
    rw [L_eqInt64S R (by omega) (by omega)]
    simp only [Option.bind_some, if_true, bne_self_eq_false, laws_FnExactStrengthsIn.j0, Bool.false_eq_true, if_false]
    rw [L_toActs l (by omega) (by omega)]
    simp only [Option.bind_some]
    rw [L_eqActs _ (by simp <;> omega) (by simp <;> omega)]
    simp only [Option.bind_some, if_true]
    obtain ⟨la, ea⟩ := L_markActsF (l.map D_act) (by simp <;> omega) 1 (by omega) (k := l.length + 99) (by simp <;> omega)
    rw [ea]
    simp only [Option.bind_some]
    rw [if_neg (by omega), L_eqInt64S R (by omega) (by omega)]
    simp only [Option.bind_some, if_true, laws_FnExactStrengthsIn.j1, bne_self_eq_false, Bool.false_eq_true, if_false]
    rw [h1 _ (by omega)]
    simp only [Option.bind_some]
    rw [h2 _ (by omega)]
    simp only [Option.bind_some]
    rw [if_neg (by omega)]
    simp only [if_true, laws_toDeveloper.f, laws_toBath.f, Option.bind_some]
    rw [L_toActs l (by omega) (by omega)]
    simp only [Option.bind_some]
    rw [(e' _ (by omega)).2]
    simp only [Option.bind_some]
    rw [L_eqInt64S R (by omega) (by omega)]
    simp only [Option.bind_some, if_true, laws_FnExactStrengthsIn.j2, bne_self_eq_false, Bool.false_eq_true, if_false]
    rw [h2 _ (by omega)]
    simp only [Option.bind_some]
    rw [if_neg (by omega)]
    simp only [if_true]

end Go.Proofs.Ytcimollhdocphaa.Pure
