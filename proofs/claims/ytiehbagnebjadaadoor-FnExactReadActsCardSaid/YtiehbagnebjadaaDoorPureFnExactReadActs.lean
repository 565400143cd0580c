/- The plain law of FnExactReadActs: the printed function of the law answers true for all arguments within their kinds' bounds. No condition besides. -/
import Derived.Test.YtiehbagnebjadaaDoorQx6
import Derived.Lib.SplitLaws
import Derived.Lib.ParseIntBCases
import Derived.Lib.ItoaNum
import Derived.Lib.IndexMore
namespace Go.Proofs.YtiehbagnebjadaaDoor.Pure
open Go.RowKit Go.Proofs.YtiehbagnebjadaaDoor.Q Go.Proofs.YtiehbagnebjadaaDoorW.PrintWords Go.Proofs.YtiehbagnebjadaaDoorW.PrintLast Go.Proofs.YtiehbagnebjadaaDoorW.PrintMore
set_option linter.unusedVariables false
set_option linter.unusedSimpArgs false
def D_kinds (l : List S56) : Prop := ∀ x ∈ l, 0 ≤ x.f0 ∧ x.f0 ≤ 2
instance (l : List S56) : Decidable (D_kinds l) := by unfold D_kinds; infer_instance

def D_told (l : List S56) : Prop := ((∀ x ∈ l, 0 ≤ x.f1 ∧ x.f1 ≤ 100000) ∧ D_kinds l) ∧ (l.length : Int) ≤ 60
instance (l : List S56) : Decidable (D_told l) := by unfold D_told; infer_instance

/-- the text of lines that end in b -/
def D_lined (b : UInt8) : List (List UInt8) → List UInt8
  | [] => []
  | x :: t => x ++ b :: D_lined b t

def D_word (z : Int) : ByteArray := rdOf ByteArray.empty ([(⟨#[115, 104, 101, 101, 116]⟩ : ByteArray), (⟨#[114, 101, 115, 116]⟩ : ByteArray), (⟨#[114, 101, 112, 108, 101, 110, 105, 115, 104]⟩ : ByteArray)] : List ByteArray) z

/-- the line of an act -/
def D_lineL (x : S56) : List UInt8 := (D_word x.f0).data.toList ++ 32 :: Lib.decDigits x.f1.toNat

def D_T (l : List S56) : List UInt8 := D_lined 10 (l.map D_lineL)

def D_mk (x : List UInt8) : ByteArray := ⟨x.toArray⟩

theorem L_linedLen (b : UInt8) : ∀ L : List (List UInt8), L.length ≤ (D_lined b L).length
  | [] => by simp
  | x :: t => by
    have := L_linedLen b t
    rw [D_lined, List.length_append, List.length_cons, List.length_cons]
    omega

theorem L_mkList (s : ByteArray) : D_mk s.data.toList = s := by
  obtain ⟨⟨l⟩⟩ := s
  rfl

theorem L_mapMk : ∀ (L : List ByteArray) (M : List (List UInt8)), L.map (·.data.toList) = M → L = M.map D_mk
  | [], M, h => by subst h; rfl
  | s :: L, M, h => by
    subst h
    rw [List.map_cons, List.map_cons, L_mkList, ← L_mapMk L _ rfl]

theorem L_index1 (b : UInt8) : ∀ (x r : List UInt8), b ∉ x → Lib.index (x ++ b :: r) [b] = (x.length : Int)
  | [], r, _ => by simp [Lib.index, List.isPrefixOf]
  | c :: x, r, h => by
    have hc : ¬ b = c := fun e => h (by rw [e]; simp)
    have ih := L_index1 b x r (fun e => h (List.mem_cons_of_mem _ e))
    rw [List.cons_append, Lib.index, if_neg (by simp [List.isPrefixOf, hc]), ih, if_neg (by simp)]
    simp

theorem L_splitK (b : UInt8) : ∀ (L : List (List UInt8)) (k : Nat), (∀ x ∈ L, b ∉ x) → L.length ≤ k → Lib.splitK [b] 0 k (D_lined b L) = L ++ [[]]
  | [], k, _, _ => by
    cases k with
    | zero => rfl
    | succ k => simp [Lib.splitK, D_lined, Lib.index]
  | x :: t, k, h, hk => by
    obtain ⟨k, rfl⟩ : ∃ m, k = m + 1 := ⟨k - 1, by simp only [List.length_cons] at hk; omega⟩
    rw [D_lined, Lib.splitK, L_index1 b x _ (h x (by simp)), if_neg (by simp)]
    have e1 : (x ++ b :: D_lined b t).take ((x.length : Int).toNat + 0) = x := by simp
    have e2 : (x ++ b :: D_lined b t).drop ((x.length : Int).toNat + ([b] : List UInt8).length) = D_lined b t := by
      rw [Int.toNat_natCast, List.drop_append, List.drop_eq_nil_of_le (by simp)]
      simp
    rw [e1, e2, L_splitK b t k (fun y hy => h y (List.mem_cons_of_mem _ hy)) (by simp only [List.length_cons] at hk; omega)]
    rfl

def D_kind (w : List UInt8) : Int := if w = [114, 101, 112, 108, 101, 110, 105, 115, 104] then 2 else if w = [114, 101, 115, 116] then 1 else if w = [115, 104, 101, 101, 116] then 0 else -1

def D_wordL (z : Int) : List UInt8 := (D_word z).data.toList

theorem L_wordKind {z : Int} (h : 0 ≤ z ∧ z ≤ 2) : D_kind (D_wordL z) = z ∧ (32 : UInt8) ∉ D_wordL z ∧ (10 : UInt8) ∉ D_wordL z := by
  obtain rfl | rfl | rfl : z = 0 ∨ z = 1 ∨ z = 2 := by omega
  · decide
  · decide
  · decide

theorem L_decDig : ∀ (n : Nat), ∀ c ∈ Lib.decDigits n, 48 ≤ c.toNat ∧ c.toNat ≤ 57 := by
  intro n
  induction n using Nat.strongRecOn with
  | _ n ih =>
    intro c hc
    rw [Lib.decDigits] at hc
    split at hc
    · rename_i h
      rw [List.mem_singleton] at hc
      rw [hc, UInt8.toNat_ofNat']
      omega
    · rename_i h
      rcases List.mem_append.1 hc with hc | hc
      · exact ih (n / 10) (by omega) c hc
      · rw [List.mem_singleton] at hc
        rw [hc, UInt8.toNat_ofNat']
        omega

theorem L_decNo {n : Nat} {b : UInt8} (h : b.toNat < 48 ∨ 57 < b.toNat) : b ∉ Lib.decDigits n := fun e => by
  have := L_decDig n b e
  omega

theorem L_lineNo {x : S56} (h : 0 ≤ x.f0 ∧ x.f0 ≤ 2) : (10 : UInt8) ∉ D_lineL x := by
  unfold D_lineL
  have := (L_wordKind h).2.2
  unfold D_wordL at this
  simp only [List.mem_append, List.mem_cons, not_or]
  exact ⟨this, by decide, L_decNo (Or.inl (by decide))⟩

theorem L_linedNo {l : List S56} (h : D_told l) : ∀ x ∈ l.map D_lineL, (10 : UInt8) ∉ x := by
  intro x hx
  obtain ⟨y, hy, rfl⟩ := List.mem_map.1 hx
  unfold D_told at h
  exact L_lineNo (h.1.2 y hy)

theorem L_readLines (s : ByteArray) (l : List S56) (hl : D_told l) (e : s.data.toList = D_T l) : D_readLines s = (l.map D_lineL ++ [[]]).map D_mk := by
  have hsz := Lib.size_eq s
  have hl2 : (l.length : Int) ≤ 60 := by unfold D_told at hl; exact hl.2
  have hlen := L_linedLen 10 (l.map D_lineL)
  rw [List.length_map] at hlen
  unfold D_readLines
  refine L_mapMk _ _ ?_
  rw [Lib.splitB_data, e, show (⟨#[10]⟩ : ByteArray).data.toList = [10] from rfl]
  unfold D_T at e ⊢
  rw [e] at hsz
  exact L_splitK 10 _ _ (L_linedNo hl) (by rw [List.length_map]; omega)

theorem L_mkData (x : List UInt8) : (D_mk x).data.toList = x := rfl

theorem L_index0 (b : UInt8) : ∀ (x : List UInt8), b ∉ x → Lib.index x [b] = -1
  | [], _ => by simp [Lib.index]
  | c :: x, h => by
    have hc : ¬ b = c := fun e => h (by rw [e]; simp)
    have ih := L_index0 b x (fun e => h (List.mem_cons_of_mem _ e))
    rw [Lib.index, if_neg (by simp [List.isPrefixOf, hc]), ih, if_pos (by simp)]

theorem L_cut0 (b : UInt8) (x : List UInt8) (h : b ∉ x) : Lib.cut x [b] = (x, [], false) := by
  unfold Lib.cut
  rw [L_index0 b x h, if_neg (by omega)]

theorem L_readEmpty : D_readLine (D_mk []) = none := by
  unfold D_readLine
  rw [L_mkData, L_cut0 32 [] (by simp)]
  rfl

theorem L_cut1 (b : UInt8) (x r : List UInt8) (h : b ∉ x) : Lib.cut (x ++ b :: r) [b] = (x, r, true) := by
  unfold Lib.cut
  rw [L_index1 b x r h, if_pos (by omega)]
  have e1 : (x ++ b :: r).take ((x.length : Int).toNat) = x := by simp
  have e2 : (x ++ b :: r).drop ((x.length : Int).toNat + ([b] : List UInt8).length) = r := by
    rw [Int.toNat_natCast, List.drop_append, List.drop_eq_nil_of_le (by simp)]
    simp
  rw [e1, e2]

theorem L_decNe (n : Nat) : Lib.decDigits n ≠ [] := by
  rw [Lib.decDigits]
  split <;> simp

theorem L_parseUSnoc (M : Nat) : ∀ (l : List UInt8) (c : UInt8) (a m : Nat), Lib.parseUintM M a l = .ok m → 48 ≤ c.toNat → c.toNat ≤ 57 → m < 1844674407370955162 → m * 10 + (c.toNat - 48) ≤ M → Lib.parseUintM M a (l ++ [c]) = .ok (m * 10 + (c.toNat - 48))
  | [], c, a, m, h, h1, h2, h3, h4 => by
    simp only [Lib.parseUintM] at h
    injection h with h
    subst h
    simp only [List.nil_append, Lib.parseUintM]
    rw [if_pos ⟨h1, h2⟩, if_neg (by omega), if_neg (by omega)]
  | x :: l, c, a, m, h, h1, h2, h3, h4 => by
    rw [List.cons_append]
    simp only [Lib.parseUintM] at h ⊢
    split at h
    · rename_i hx
      rw [if_pos hx]
      split at h
      · cases h
      · rename_i h5
        rw [if_neg h5]
        split at h
        · cases h
        · rename_i h6
          rw [if_neg h6]
          exact L_parseUSnoc M l c _ m h h1 h2 h3 h4
    · cases h

theorem L_parseUDec (M n : Nat) (h : n ≤ M) (h2 : n < 18446744073709551616) : Lib.parseUintM M 0 (Lib.decDigits n) = .ok n := by
  induction n using Nat.strongRecOn with
  | _ n ih =>
    rw [Lib.decDigits]
    split
    · rename_i hn
      have e : (UInt8.ofNat (48 + n)).toNat = 48 + n := by rw [UInt8.toNat_ofNat']; omega
      simp only [Lib.parseUintM, e]
      rw [if_pos (by omega), if_neg (by omega), if_neg (by omega)]
      congr 1; omega
    · rename_i hn
      have e : (UInt8.ofNat (48 + n % 10)).toNat = 48 + n % 10 := by rw [UInt8.toNat_ofNat']; omega
      rw [L_parseUSnoc M _ _ 0 (n / 10) (ih (n / 10) (by omega) (by omega) (by omega)) (by omega) (by omega) (by omega) (by omega), e]
      congr 1; omega

/-- the number that digits say, behind a -/
def D_num : List UInt8 → Nat → Option Nat
  | [], a => some a
  | c :: r, a => if 48 ≤ c.toNat ∧ c.toNat ≤ 57 then D_num r (10 * a + (c.toNat - 48)) else none

theorem L_numSnoc : ∀ (l : List UInt8) (c : UInt8) (a m : Nat), D_num l a = some m → 48 ≤ c.toNat → c.toNat ≤ 57 → D_num (l ++ [c]) a = some (10 * m + (c.toNat - 48))
  | [], c, a, m, h, h1, h2 => by
    cases h
    simp only [List.nil_append, D_num]
    rw [if_pos ⟨h1, h2⟩]
  | x :: l, c, a, m, h, h1, h2 => by
    rw [D_num] at h
    split at h
    · rename_i hx
      rw [List.cons_append, D_num, if_pos hx]
      exact L_numSnoc l c _ m h h1 h2
    · cases h

theorem L_numDec (n : Nat) : D_num (Lib.decDigits n) 0 = some n := by
  induction n using Nat.strongRecOn with
  | _ n ih =>
    rw [Lib.decDigits]
    split
    · rename_i h
      have e : (UInt8.ofNat (48 + n)).toNat = 48 + n := by rw [UInt8.toNat_ofNat']; omega
      simp only [D_num, e]
      rw [if_pos (by omega)]
      congr 1; omega
    · rename_i h
      have e : (UInt8.ofNat (48 + n % 10)).toNat = 48 + n % 10 := by rw [UInt8.toNat_ofNat']; omega
      rw [L_numSnoc _ _ 0 (n / 10) (ih (n / 10) (by omega)) (by omega) (by omega), e]
      congr 1; omega

theorem L_decHead (n : Nat) : ∃ c r, Lib.decDigits n = c :: r ∧ ¬ (c.toNat = 48 ∧ r ≠ []) := by
  induction n using Nat.strongRecOn with
  | _ n ih =>
    rw [Lib.decDigits]
    split
    · exact ⟨_, [], rfl, fun h => h.2 rfl⟩
    · rename_i h
      obtain ⟨c, r, e, hz⟩ := ih (n / 10) (by omega)
      refine ⟨c, r ++ [UInt8.ofNat (48 + n % 10)], by rw [e]; rfl, fun hh => ?_⟩
      have hr : r = [] := Classical.byContradiction fun e2 => hz ⟨hh.1, e2⟩
      subst hr
      have h1 := L_numDec (n / 10)
      rw [e, D_num, hh.1] at h1
      simp only [D_num] at h1
      injection h1 with h1
      omega

theorem L_parseDec (B n : Nat) (hB : n < 2 ^ (B - 1)) (hM : 2 ^ (B - 1) ≤ 2 ^ B - 1) (h2 : n < 18446744073709551616) : Lib.parseIntB B (Lib.decDigits n) = .ok (n : Int) := by
  have hu : Lib.parseUintB B (Lib.decDigits n) = .ok n := by
    unfold Lib.parseUintB
    rw [if_neg (L_decNe n)]
    exact L_parseUDec _ n (by omega) h2
  obtain ⟨c, r, e, _⟩ := L_decHead n
  have hc := L_decDig n c (by rw [e]; simp)
  rw [e] at hu ⊢
  rw [Lib.parseIntB_plain B c r (by omega) (by omega), hu]
  simp only [Lib.signlessC]
  rw [if_neg (by omega)]

theorem L_readLine {x : S56} (h : 0 ≤ x.f0 ∧ x.f0 ≤ 2) (hN : 0 ≤ x.f1 ∧ x.f1 ≤ 100000) : D_readLine (D_mk (D_lineL x)) = some x := by
  have hw := L_wordKind h
  have hc : Lib.cut (D_lineL x) [32] = (D_wordL x.f0, Lib.decDigits x.f1.toNat, true) := L_cut1 32 _ _ hw.2.1
  have hp := L_parseDec 64 x.f1.toNat (by have : (2 : Nat) ^ (64 - 1) = 9223372036854775808 := by decide
                                          omega) (by decide) (by omega)
  have hi : IntKind.i8.wrap (Lib.idxOfS readWords ⟨(D_wordL x.f0).toArray⟩) = x.f0 := by
    obtain ⟨a, b⟩ := x
    dsimp only at h ⊢
    obtain rfl | rfl | rfl : a = 0 ∨ a = 1 ∨ a = 2 := by omega
    · decide +kernel
    · decide +kernel
    · decide +kernel
  unfold D_readLine
  rw [L_mkData, hc]
  simp only [hp, hi]
  rw [show ((x.f1.toNat : Nat) : Int) = x.f1 by omega]

theorem L_readOut : ∀ (l o : List S56), (∀ x ∈ l, (0 ≤ x.f0 ∧ x.f0 ≤ 2) ∧ 0 ≤ x.f1 ∧ x.f1 ≤ 100000) → D_readOut ((l.map D_lineL ++ [[]]).map D_mk) o = o ++ l
  | [], o, _ => by simp [D_readOut, L_readEmpty]
  | x :: l, o, h => by
    have h1 := h x (by simp)
    rw [List.map_cons, List.cons_append, List.map_cons, D_readOut, L_readLine h1.1 h1.2]
    simp only
    rw [L_readOut l (o ++ [x]) (fun y hy => h y (List.mem_cons_of_mem _ hy))]
    simp

def D_actB (l : List S56) : Prop := ∀ x ∈ l, -128 ≤ x.f0 ∧ x.f0 ≤ 127

theorem L_readOutB : ∀ (L : List ByteArray) (o : List S56), D_actB o → D_actB (D_readOut L o)
  | [], o, h => h
  | s :: L, o, h => by
    rw [D_readOut]
    refine L_readOutB L _ ?_
    cases hq : D_readLine s with
    | none => exact h
    | some x =>
      intro y hy
      rcases List.mem_append.1 hy with hy | hy
      · exact h y hy
      · rw [List.mem_singleton] at hy
        subst hy
        unfold D_readLine at hq
        split at hq
        · cases hq
          simp only [IntKind.wrap, IntKind.bits, IntKind.signed]
          simp
          omega
        · cases hq

theorem L_idxAnyOn {α : Type} (q : α → Option Bool) (p : α → Bool) : ∀ (l : List α) (i : Int), (∀ x ∈ l, q x = some (p x)) → 0 ≤ i → ∃ r, D_idx q l i = some r ∧ (l.any p = false → r = -1) ∧ (l.any p = true → 0 ≤ r)
  | [], i, _, hi => ⟨-1, rfl, fun _ => rfl, fun h => by simp at h⟩
  | x :: t, i, h, hi => by
    simp only [D_idx, h x (by simp), Option.bind_some]
    by_cases hx : p x = true
    · rw [if_pos hx]
      exact ⟨i, rfl, fun h => by simp [hx] at h, fun _ => hi⟩
    · rw [if_neg hx]
      obtain ⟨r, h1, h2, h3⟩ := L_idxAnyOn q p t (i + 1) (fun y hy => h y (by simp [hy])) (by omega)
      refine ⟨r, h1, fun h => h2 (by simpa [hx] using h), fun h => h3 (by simpa [hx] using h)⟩

theorem L_w {x : Int} (h : -9223372036854775808 ≤ x ∧ x ≤ 9223372036854775807) : wrap64 x = x := by unfold wrap64; omega

theorem L_sd {p q : Prop} [Decidable p] [Decidable q] (h : p ↔ q) : some (decide p) = some (decide q) := by rw [decide_eq_decide.mpr h]

theorem L_sf {q : Prop} [Decidable q] (h : ¬ q) : some false = some (decide q) := by rw [decide_eq_false h]

theorem L_within (a b c : Int) : impl_within.f a b c = some (decide (b ≤ a ∧ a ≤ c)) := by
  unfold impl_within.f
  split
  · exact L_sd (by omega)
  · exact L_sf (by omega)

theorem L_anyIff {α : Type} (P : α → Prop) [DecidablePred P] (l : List α) (r : Int) (h2 : l.any (fun x => !decide (P x)) = false → r = -1) (h3 : l.any (fun x => !decide (P x)) = true → 0 ≤ r) [Decidable (∀ x ∈ l, P x)] :
    decide (0 ≤ r) = !decide (∀ x ∈ l, P x) := by
  by_cases h : ∀ x ∈ l, P x
  · have e : l.any (fun x => !decide (P x)) = false := by rw [List.any_eq_false]; intro x hx; simp [h x hx]
    rw [h2 e, decide_eq_true h]
    rfl
  · have e : l.any (fun x => !decide (P x)) = true := by
      rw [List.any_eq_true]
      obtain ⟨x, hx⟩ := Classical.not_forall.1 h
      obtain ⟨hx, hh⟩ := Classical.not_imp.1 hx
      exact ⟨x, hx, by simp only [Bool.not_eq_true', decide_eq_false_iff_not]; exact hh⟩
    rw [decide_eq_false h, decide_eq_true (h3 e)]
    rfl


theorem L_implKinds (l : List S56) (h8 : D_actB l) : impl_areKinds.f l = some (decide (D_kinds l)) := by
  unfold impl_areKinds.f impl_Act_64.f impl_Act_81.f
  rw [if_pos rfl]
  obtain ⟨r, h1, h2, h3⟩ := L_idxAnyOn (fun x : S56 => impl_areKinds_1.f x.f0 x.f1) (fun x => !decide (0 ≤ x.f0 ∧ x.f0 ≤ 2)) l 0 (fun x hx => by
    have := h8 x hx
    unfold impl_areKinds_1.f
    rw [L_w (x := x.f0) (by omega), L_within]; rfl) (by omega)
  rw [h1]
  simp only [Option.bind_some]
  rw [L_anyIff (fun x : S56 => 0 ≤ x.f0 ∧ x.f0 ≤ 2) l r h2 h3]
  simp only [Bool.not_not]
  rfl

theorem L_implTold (l : List S56) (h8 : D_actB l) : impl_areTold.f l = some (decide (D_told l)) := by
  unfold impl_areTold.f D_told
  rw [L_implKinds l h8]
  simp only [Option.bind_some, decide_eq_true_eq]
  by_cases h1 : (l.length : Int) ≤ 60
  · rw [if_pos h1]
    by_cases h2 : D_kinds l
    · rw [if_pos h2]
      unfold impl_Act_64.f impl_Act_81.f
      rw [if_neg (by decide), if_pos rfl]
      obtain ⟨r, e1, e2, e3⟩ := L_idxAnyOn (fun x : S56 => impl_areTold_1.f x.f0 x.f1) (fun x => !decide (0 ≤ x.f1 ∧ x.f1 ≤ 100000)) l 0 (fun x hx => by
        unfold impl_areTold_1.f
        rw [L_within]; rfl) (by omega)
      rw [e1]
      simp only [Option.bind_some]
      rw [L_anyIff (fun x : S56 => 0 ≤ x.f1 ∧ x.f1 ≤ 100000) l r e2 e3]
      simp only [Bool.not_not]
      exact L_sd ⟨fun x => ⟨⟨x, h2⟩, h1⟩, fun x => x.1.1⟩
    · rw [if_neg h2]
      exact L_sf (fun x => h2 x.1.2)
  · rw [if_neg h1]
    exact L_sf (fun x => h1 x.2)

def D_actsText : List S56 → ByteArray → ByteArray
  | [], s => s
  | x :: r, s => D_actsText r (s ++ (((D_word x.f0 ++ (⟨#[32]⟩ : ByteArray)) ++ (⟨(Lib.decDigits x.f1.toNat).toArray⟩ : ByteArray)) ++ (⟨#[10]⟩ : ByteArray)))

theorem L_rdAS {l : List S56} {i : Int} (h0 : 0 ≤ i) (h : i < l.length) : ∃ hi : i.toNat < l.length, rd_T56 l i = l[i.toNat]'hi :=
  ⟨by omega, by unfold rd_T56; rw [List.getD_eq_getElem?_getD, List.getElem?_eq_getElem (by omega)]; rfl⟩

theorem L_wordSize {z : Int} (h : 0 ≤ z ∧ z ≤ 2) : (D_word z).size ≤ 9 := by
  obtain rfl | rfl | rfl : z = 0 ∨ z = 1 ∨ z = 2 := by omega
  · decide
  · decide
  · decide

theorem L_decLen : ∀ (d n : Nat), n < 10 ^ d → 1 ≤ d → (Lib.decDigits n).length ≤ d
  | 0, _, _, h => absurd h (by omega)
  | d + 1, n, h, _ => by
    rw [Lib.decDigits]
    split
    · simp
    · rename_i hn
      have hp : 10 ^ (d + 1) = 10 ^ d * 10 := Nat.pow_succ ..
      have hd : 1 ≤ d := by
        cases d with
        | zero => simp at h; omega
        | succ d => omega
      have := L_decLen d (n / 10) (by omega) hd
      rw [List.length_append]
      simp only [List.length_cons, List.length_nil]
      omega

theorem L_decSz {n : Int} (h0 : 0 ≤ n) (h : n < 1000000) : (⟨(Lib.decDigits n.toNat).toArray⟩ : ByteArray).size ≤ 7 := by
  have := L_decLen 6 n.toNat (by omega) (by omega)
  have e : (⟨(Lib.decDigits n.toNat).toArray⟩ : ByteArray).size = (Lib.decDigits n.toNat).length := by simp [ByteArray.size]
  omega

theorem L_implDecT {n : Int} (h0 : 0 ≤ n) (h : n ≤ 100000) : impl_decimal.f n = some ⟨(Lib.decDigits n.toNat).toArray⟩ := by
  unfold impl_decimal.f Lib.itoa
  rw [if_pos (by omega), if_pos (by omega), if_neg (by omega)]

theorem L_implTextLoop (l : List S56) (hN : ∀ x ∈ l, 0 ≤ x.f1 ∧ x.f1 ≤ 100000) (hK : D_kinds l) (hn : (l.length : Int) ≤ 60) (d : Nat) : ∀ (k : Nat) (s : ByteArray) (i : Int), 0 ≤ i → i + d = l.length → d < k → (s.size : Int) ≤ 18 * i →
    impl_actsText.l0 k s l (l.length : Int) i = some (D_actsText (l.drop i.toNat) s) := by
  induction d with
  | zero =>
    intro k s i h0 hd hk hs
    obtain ⟨k, rfl⟩ : ∃ m, k = m + 1 := ⟨k - 1, by omega⟩
    simp only [impl_actsText.l0]
    rw [if_neg (by omega), List.drop_eq_nil_of_le (by omega)]
    rfl
  | succ d ih =>
    intro k s i h0 hd hk hs
    obtain ⟨k, rfl⟩ : ∃ m, k = m + 1 := ⟨k - 1, by omega⟩
    obtain ⟨hi, e⟩ := L_rdAS (l := l) (i := i) h0 (by omega)
    have h1 := hN _ (List.getElem_mem hi)
    have h2 := hK _ (List.getElem_mem hi)
    rw [← e] at h1 h2
    have sp : (⟨#[32]⟩ : ByteArray).size = 1 := rfl
    have nl : (⟨#[10]⟩ : ByteArray).size = 1 := rfl
    have hw := L_wordSize h2
    have hdd := L_decSz (n := (rd_T56 l i).f1) h1.1 (by omega)
    simp only [impl_actsText.l0, impl_actWords.f, Option.bind_some]
    rw [show rdOf ByteArray.empty ([(⟨#[115, 104, 101, 101, 116]⟩ : ByteArray), (⟨#[114, 101, 115, 116]⟩ : ByteArray), (⟨#[114, 101, 112, 108, 101, 110, 105, 115, 104]⟩ : ByteArray)] : List ByteArray) (rd_T56 l i).f0 = D_word (rd_T56 l i).f0 from rfl]
    simp only [List.length_cons, List.length_nil, Nat.zero_add, Nat.reduceAdd]
    rw [if_pos (show i < (l.length : Int) by omega), if_pos h0, if_pos (show i < (l.length : Int) by omega), if_pos h2.1, if_pos (show (rd_T56 l i).f0 < ((3 : Nat) : Int) by omega), if_pos (by omega), L_implDecT h1.1 h1.2]
    simp only [Option.bind_some]
    generalize hq : (⟨(Lib.decDigits (rd_T56 l i).f1.toNat).toArray⟩ : ByteArray) = q at hdd ⊢
    rw [if_pos (by rw [ByteArray.size_append]; omega), if_pos (by rw [ByteArray.size_append, ByteArray.size_append]; omega), if_pos (by rw [ByteArray.size_append, ByteArray.size_append, ByteArray.size_append]; omega), L_w (x := i + 1) (by omega)]
    rw [ih k _ (i + 1) (by omega) (by omega) (by omega) (by rw [ByteArray.size_append, ByteArray.size_append, ByteArray.size_append, ByteArray.size_append]; omega), List.drop_eq_getElem_cons hi, ← e, show (i + 1).toNat = i.toNat + 1 by omega]
    simp only [D_actsText, hq]

theorem L_mk (a b : List UInt8) : (⟨a.toArray⟩ : ByteArray) ++ (⟨b.toArray⟩ : ByteArray) = ⟨(a ++ b).toArray⟩ := by
  apply ByteArray.ext
  simp [ByteArray.data_append]

theorem L_actsLined : ∀ (l : List S56) (a : List UInt8), D_actsText l (D_mk a) = D_mk (a ++ D_lined 10 (l.map D_lineL))
  | [], a => by simp [D_actsText, D_lined]
  | x :: l, a => by
    have e : (D_mk a) ++ (((D_word x.f0 ++ (⟨#[32]⟩ : ByteArray)) ++ (⟨(Lib.decDigits x.f1.toNat).toArray⟩ : ByteArray)) ++ (⟨#[10]⟩ : ByteArray)) = D_mk (a ++ (D_lineL x ++ [10])) := by
      unfold D_lineL
      rw [← L_mkList (D_word x.f0), show (⟨#[32]⟩ : ByteArray) = ⟨([32] : List UInt8).toArray⟩ from rfl, show (⟨#[10]⟩ : ByteArray) = ⟨([10] : List UInt8).toArray⟩ from rfl]
      unfold D_mk
      rw [L_mk, L_mk, L_mk, L_mk]
      simp
    rw [D_actsText, e, L_actsLined l]
    congr 1
    simp [D_lined]

theorem L_actsT (l : List S56) : D_actsText l ⟨#[]⟩ = D_mk (D_T l) := L_actsLined l []

theorem L_mkToList (x : List UInt8) : (D_mk x).toList = x := by rw [Lib.toList_data]; rfl

theorem L_implRead (s : ByteArray) (hs : s.size ≤ 1048576) : impl_ReadActs.f s = some (if D_told (D_readOut (D_readLines s) []) ∧ s.data.toList = D_T (D_readOut (D_readLines s) []) then (D_readOut (D_readLines s) [], 0) else ([], 5)) := by
  have hB : D_actB (D_readOut (D_readLines s) []) := L_readOutB _ [] (fun x hx => by simp at hx)
  unfold impl_ReadActs.f
  rw [if_pos hs, L_implTold _ hB]
  generalize D_readOut (D_readLines s) [] = o at hB ⊢
  simp only [Option.bind_some, decide_eq_true_eq]
  by_cases h : D_told o
  · have h' := h
    unfold D_told at h'
    rw [if_pos h]
    unfold impl_actsText.f
    rw [L_implTextLoop o h'.1.1 h'.1.2 h'.2 o.length _ _ 0 (by omega) (by omega) (by omega) (by decide)]
    simp only [Option.bind_some, Int.toNat_zero, List.drop_zero]
    rw [L_actsT, L_mkToList, Lib.toList_data]
    by_cases h2 : s.data.toList = D_T o
    · rw [if_pos h2.symm, if_pos ⟨h, h2⟩]
    · rw [if_neg (fun e => h2 e.symm), if_neg (fun e => h2 e.2)]
  · rw [if_neg h, if_neg (fun e => h e.1)]

theorem L_implOf (s : ByteArray) (hs : s.size ≤ 1048576) (l : List S56) (hl : D_told l) (e : s.data.toList = D_T l) : impl_ReadActs.f s = some (l, 0) := by
  have h1 : D_readOut (D_readLines s) [] = l := by
    rw [L_readLines s l hl e, L_readOut l [] (fun x hx => by unfold D_told at hl; exact ⟨hl.1.2 x hx, hl.1.1 x hx⟩)]
    rfl
  rw [L_implRead s hs, h1, if_pos ⟨hl, e⟩]

def D_actRes (x : Option (List S56)) : List S56 × Int := match x with | some o => (o, 0) | none => ([], 5)

def D_splitOn (b : UInt8) : List UInt8 → List UInt8 → List (List UInt8)
  | acc, [] => [acc]
  | acc, c :: r => if c = b then acc :: D_splitOn b [] r else D_splitOn b (acc ++ [c]) r

def D_number : List UInt8 → Option Nat
  | [] => none
  | c :: r => if 9 < r.length + 1 then none else if c.toNat = 48 ∧ r ≠ [] then none else D_num (c :: r) 0

def D_rdActs : List (List UInt8) → List S56 → Option (List S56)
  | [], _ => none
  | [_], o => if D_told o then some o else none
  | x :: y :: t, o =>
    match D_splitOn 32 [] x with
    | [w, n] =>
      match D_number n with
      | some m => D_rdActs (y :: t) (o ++ [⟨D_kind w, (m : Int)⟩])
      | none => none
    | _ => none

theorem L_mkExt (s : ByteArray) (a b : Nat) : s.extract a b = D_mk ((s.data.toList.drop a).take (b - a)) := by
  rw [← Lib.extract_data, L_mkList]

theorem L_btAt (s : ByteArray) (i : Nat) (h : i < s.data.toList.length) : bt s (i : Int) = ((s.data.toList[i]'h).toNat : Int) := by
  have hs : i < s.size := by rw [Lib.size_eq]; exact h
  unfold bt
  rw [dif_pos (by rw [Int.toNat_natCast]; exact hs)]
  rfl

theorem L_splitLoop (s : ByteArray) (b : UInt8) (hs : s.size ≤ 1048576) (d : Nat) : ∀ (k : Nat) (out : List ByteArray) (beg i : Nat), i + d = s.size → beg ≤ i → d < k → out.length ≤ i →
    spec_l01Split.l0 k s (b.toNat : Int) out (beg : Int) (i : Int) = some (out ++ (D_splitOn b ((s.data.toList.drop beg).take (i - beg)) (s.data.toList.drop i)).map D_mk) := by
  have hsz := Lib.size_eq s
  induction d with
  | zero =>
    intro k out beg i hi hb hk ho
    obtain ⟨k, rfl⟩ : ∃ m, k = m + 1 := ⟨k - 1, by omega⟩
    rw [spec_l01Split.l0, if_neg (by omega), if_pos (by omega), if_pos (by omega), if_pos (by omega), List.drop_eq_nil_of_le (by omega : s.data.toList.length ≤ i), D_splitOn, L_mkExt, show i = s.size by omega]
    simp
  | succ d ih =>
    intro k out beg i hi hb hk ho
    obtain ⟨k, rfl⟩ : ∃ m, k = m + 1 := ⟨k - 1, by omega⟩
    have hlt : i < s.data.toList.length := by omega
    rw [spec_l01Split.l0, if_pos (by omega), if_pos (by omega), L_btAt s i hlt, List.drop_eq_getElem_cons hlt, L_w (x := (i : Int) + 1) (by omega)]
    by_cases hc : s.data.toList[i] = b
    · rw [if_pos (by rw [hc]), if_pos (by omega), if_pos (by omega), if_pos (by omega), if_pos (by omega), D_splitOn, if_pos hc, show ((i : Int) + 1) = ((i + 1 : Nat) : Int) by omega, ih k _ (i + 1) (i + 1) (by omega) (by omega) (by omega) (by simp; omega), L_mkExt]
      simp
    · rw [if_neg (fun e => hc (UInt8.toNat_inj.1 (by omega))), D_splitOn, if_neg hc, show ((i : Int) + 1) = ((i + 1 : Nat) : Int) by omega, ih k out beg (i + 1) (by omega) (by omega) (by omega) (by omega)]
      have e : (s.data.toList.drop beg).take (i + 1 - beg) = (s.data.toList.drop beg).take (i - beg) ++ [s.data.toList[i]] := by
        rw [show i + 1 - beg = (i - beg) + 1 by omega, List.take_add_one]
        congr 1
        rw [List.getElem?_drop, show beg + (i - beg) = i by omega, List.getElem?_eq_getElem hlt]
        rfl
      rw [e]

theorem L_split (s : ByteArray) (b : Int) (hb : 0 ≤ b ∧ b < 256) (hs : s.size ≤ 1048576) {k : Nat} (hk : s.size < k) : spec_l01Split.f k s b = some ((D_splitOn (UInt8.ofNat b.toNat) [] s.data.toList).map D_mk) := by
  unfold spec_l01Split.f
  have e : ((UInt8.ofNat b.toNat).toNat : Int) = b := by rw [UInt8.toNat_ofNat']; omega
  have := L_splitLoop s (UInt8.ofNat b.toNat) hs s.size k [] 0 0 (by omega) (by omega) hk (by simp)
  rw [e] at this
  simpa using this

theorem L_splitOnLen (b : UInt8) : ∀ (l acc : List UInt8), (D_splitOn b acc l).length ≤ l.length + 1
  | [], acc => by simp [D_splitOn]
  | c :: r, acc => by
    unfold D_splitOn
    split
    · have := L_splitOnLen b r []; simp only [List.length_cons]; omega
    · have := L_splitOnLen b r (acc ++ [c]); simp only [List.length_cons]; omega

def D_glue (b : UInt8) : List (List UInt8) → List UInt8
  | [] => []
  | [x] => x
  | x :: y :: t => x ++ b :: D_glue b (y :: t)

theorem L_splitOnNe (b : UInt8) : ∀ (l acc : List UInt8), D_splitOn b acc l ≠ []
  | [], acc => by simp [D_splitOn]
  | c :: r, acc => by
    unfold D_splitOn
    split
    · simp
    · exact L_splitOnNe b r _

theorem L_splitOnGlue (b : UInt8) : ∀ (l acc : List UInt8), D_glue b (D_splitOn b acc l) = acc ++ l
  | [], acc => by simp [D_splitOn, D_glue]
  | c :: r, acc => by
    unfold D_splitOn
    split
    · rename_i h
      have h1 := L_splitOnGlue b r []
      cases hq : D_splitOn b [] r with
      | nil => exact absurd hq (L_splitOnNe b r [])
      | cons x t =>
        rw [hq] at h1
        simp only [D_glue]
        rw [h1, h]
        simp
    · rw [L_splitOnGlue b r]; simp

theorem L_glueLen (b : UInt8) : ∀ (L : List (List UInt8)), ∀ x ∈ L, x.length ≤ (D_glue b L).length
  | [], x, h => by simp at h
  | [y], x, h => by rw [List.mem_singleton] at h; rw [h, D_glue]; exact Nat.le_refl _
  | y :: z :: t, x, h => by
    rw [D_glue, List.length_append, List.length_cons]
    rcases List.mem_cons.1 h with rfl | h
    · omega
    · have := L_glueLen b (z :: t) x h
      omega

theorem L_in (a b c : Int) : spec_l00In.f a b c = some (decide (b ≤ a ∧ a ≤ c)) := by
  unfold spec_l00In.f
  split
  · exact L_sd (by omega)
  · exact L_sf (by omega)

theorem L_kindsLoop (l : List S56) (h8 : D_actB l) (hn : l.length ≤ 140737488351232) (d : Nat) : ∀ (k : Nat) (i : Int), 0 ≤ i → i + d = l.length → d < k →
    spec_l04Kinds.l0 k l i = some (decide (∀ x ∈ l.drop i.toNat, 0 ≤ x.f0 ∧ x.f0 ≤ 2)) := by
  induction d with
  | zero =>
    intro k i h0 hd hk
    obtain ⟨k, rfl⟩ : ∃ m, k = m + 1 := ⟨k - 1, by omega⟩
    simp only [spec_l04Kinds.l0]
    rw [if_neg (by omega), List.drop_eq_nil_of_le (by omega)]
    rfl
  | succ d ih =>
    intro k i h0 hd hk
    obtain ⟨k, rfl⟩ : ∃ m, k = m + 1 := ⟨k - 1, by omega⟩
    obtain ⟨hi, e⟩ := L_rdAS (l := l) (i := i) h0 (by omega)
    have h1 := h8 _ (List.getElem_mem hi)
    rw [← e] at h1
    simp only [spec_l04Kinds.l0]
    rw [if_pos (by omega), if_pos h0, L_w (x := i + 1) (by omega), L_w (x := (rd_T56 l i).f0) (by omega), L_in, List.drop_eq_getElem_cons hi, ← e]
    simp only [Option.bind_some, decide_eq_true_eq]
    split
    · rename_i hx
      rw [ih k (i + 1) (by omega) (by omega) (by omega), show (i + 1).toNat = i.toNat + 1 by omega]
      exact L_sd (by simp [hx])
    · rename_i hx
      exact L_sf (fun h => hx (h _ (by simp)))

theorem L_plainLoop (l : List S56) (h8 : D_actB l) (hn : l.length ≤ 1048576) (d : Nat) : ∀ (k : Nat) (i : Int), 0 ≤ i → i + d = l.length → d + l.length + 1 < k →
    spec_l04Plain.l0 k l i = some (decide (((∀ x ∈ l.drop i.toNat, 0 ≤ x.f1 ∧ x.f1 ≤ 100000) ∧ D_kinds l) ∧ (l.length : Int) ≤ 60)) := by
  induction d with
  | zero =>
    intro k i h0 hd hk
    obtain ⟨k, rfl⟩ : ∃ m, k = m + 1 := ⟨k - 1, by omega⟩
    simp only [spec_l04Plain.l0]
    rw [if_neg (by omega), List.drop_eq_nil_of_le (by omega)]
    unfold spec_l04Kinds.f
    rw [L_kindsLoop l h8 (by omega) l.length k 0 (by omega) (by omega) (by omega)]
    simp only [Option.bind_some, decide_eq_true_eq, Int.toNat_zero, List.drop_zero]
    by_cases h : ∀ x ∈ l, 0 ≤ x.f0 ∧ x.f0 ≤ 2
    · rw [if_pos h]
      exact L_sd ⟨fun x => ⟨⟨by simp, h⟩, x⟩, fun x => x.2⟩
    · rw [if_neg h]
      exact L_sf (fun x => h x.1.2)
  | succ d ih =>
    intro k i h0 hd hk
    obtain ⟨k, rfl⟩ : ∃ m, k = m + 1 := ⟨k - 1, by omega⟩
    obtain ⟨hi, e⟩ := L_rdAS (l := l) (i := i) h0 (by omega)
    simp only [spec_l04Plain.l0]
    rw [if_pos (by omega), if_pos h0, L_w (x := i + 1) (by omega), L_in, List.drop_eq_getElem_cons hi, ← e]
    simp only [Option.bind_some, decide_eq_true_eq]
    split
    · rename_i hx
      rw [ih k (i + 1) (by omega) (by omega) (by omega), show (i + 1).toNat = i.toNat + 1 by omega]
      refine L_sd ⟨fun h => ⟨⟨fun x hx' => ?_, h.1.2⟩, h.2⟩, fun h => ⟨⟨fun x hx' => h.1.1 x (List.mem_cons_of_mem _ hx'), h.1.2⟩, h.2⟩⟩
      rcases List.mem_cons.1 hx' with rfl | hm
      · exact hx
      · exact h.1.1 x hm
    · rename_i hx
      exact L_sf (fun h => hx (h.1.1 _ (by simp)))

theorem L_specPlain (l : List S56) (h8 : D_actB l) (hn : l.length ≤ 1048576) {k : Nat} (hk : 2 * l.length + 1 < k) : spec_l04Plain.f k l = some (decide (D_told l)) := by
  unfold spec_l04Plain.f D_told
  rw [L_plainLoop l h8 hn l.length k 0 (by omega) (by omega) (by omega)]
  simp only [Int.toNat_zero, List.drop_zero]

theorem L_mkSz (x : List UInt8) : (D_mk x).size = x.length := by simp [D_mk, ByteArray.size]

theorem L_numLoop (s : ByteArray) (hs : s.size ≤ 9) (d : Nat) : ∀ (k m i : Nat), i + d = s.size → d < k → m < 10 ^ i →
    spec_l01Number.l0 k s (m : Int) (i : Int) = some (match D_num (s.data.toList.drop i) m with | some r => ((r : Int), true) | none => (0, false)) := by
  have hsz := Lib.size_eq s
  induction d with
  | zero =>
    intro k m i hi hk hm
    obtain ⟨k, rfl⟩ : ∃ m, k = m + 1 := ⟨k - 1, by omega⟩
    rw [spec_l01Number.l0, if_neg (by omega), List.drop_eq_nil_of_le (by omega)]
    rfl
  | succ d ih =>
    intro k m i hi hk hm
    obtain ⟨k, rfl⟩ : ∃ m, k = m + 1 := ⟨k - 1, by omega⟩
    have hlt : i < s.data.toList.length := by omega
    have hp : 10 ^ (i + 1) = 10 ^ i * 10 := Nat.pow_succ ..
    have hp9 : 10 ^ i ≤ 10 ^ 9 := Nat.pow_le_pow_right (by omega) (by omega)
    rw [spec_l01Number.l0, if_pos (by omega), if_pos (by omega), L_btAt s i hlt, List.drop_eq_getElem_cons hlt, D_num]
    generalize s.data.toList[i] = c
    by_cases h1 : c.toNat < 48
    · rw [if_pos (by omega), if_neg (by omega)]
    · by_cases h2 : 57 < c.toNat
      · rw [if_neg (by omega), if_pos (by omega), if_neg (by omega)]
      · rw [if_neg (by omega), if_neg (by omega), if_pos (by omega), show ((c.toNat : Int) - 48) % 256 = ((c.toNat - 48 : Nat) : Int) by omega, L_w (x := 10 * (m : Int)) (by omega), L_w (x := 10 * (m : Int) + ((c.toNat - 48 : Nat) : Int)) (by omega), L_w (x := (i : Int) + 1) (by omega)]
        rw [show 10 * (m : Int) + ((c.toNat - 48 : Nat) : Int) = ((10 * m + (c.toNat - 48) : Nat) : Int) by omega, show (i : Int) + 1 = ((i + 1 : Nat) : Int) by omega]
        exact ih k _ (i + 1) (by omega) (by omega) (by omega)

theorem L_number (s : ByteArray) {k : Nat} (hk : 12 ≤ k) : spec_l01Number.f k s = some (match D_number s.data.toList with | some r => ((r : Int), true) | none => (0, false)) := by
  have hsz := Lib.size_eq s
  unfold spec_l01Number.f
  rw [Lib.toList_data]
  obtain ⟨k, rfl⟩ : ∃ m, k = m + 1 := ⟨k - 1, by omega⟩
  cases hl : s.data.toList with
  | nil => rw [if_pos rfl, spec_l01Number.j0, if_pos rfl]; rfl
  | cons c r =>
    rw [hl] at hsz
    simp only [List.length_cons] at hsz
    rw [if_neg (by simp)]
    simp only [D_number]
    by_cases h9 : 9 < r.length + 1
    · rw [if_pos (by omega), spec_l01Number.j0, if_pos rfl, if_pos h9]
    · have hb : bt s 0 = (c.toNat : Int) := by
        have := L_btAt s 0 (by rw [hl]; simp)
        simp only [hl] at this
        exact this
      have hloop := L_numLoop s (by omega) s.size k 0 0 (by omega) (by omega) (by omega)
      rw [hl] at hloop
      simp only [List.drop_zero] at hloop
      rw [if_neg (by omega), if_neg h9, if_pos (by omega), hb]
      by_cases h0 : c.toNat = 48
      · rw [if_pos (by omega)]
        cases r with
        | nil =>
          rw [spec_l01Number.j0, if_neg (by simp at hsz ⊢; omega), if_neg (by simp)]
          exact hloop
        | cons c2 r2 =>
          simp only [List.length_cons] at hsz
          rw [spec_l01Number.j0, if_pos (by simp; omega), if_pos ⟨h0, by simp⟩]
      · rw [if_neg (by omega), spec_l01Number.j0, if_neg (by simp), if_neg (fun h => h0 h.1)]
        exact hloop

theorem L_w8 {x : Int} (h : -128 ≤ x ∧ x ≤ 127) : IntKind.i8.wrap x = x := by simp [IntKind.wrap, IntKind.bits, IntKind.signed]; omega

theorem L_kindLoop (L : List ByteArray) (o : List S56) (i : Int) (w n : List UInt8) (g : Bool) (m : Int) (ho : o.length < 8796093022208) (k : Nat) :
    spec_ReadActs.l1 (k + 4) L o i [D_mk w, D_mk n] g 0 (-1) m = spec_ReadActs.l0 k L (o ++ [(⟨D_kind w, m⟩ : S56)]) g (wrap64 (i + 1)) := by
  have e0 : (rdOf ByteArray.empty ([D_mk w, D_mk n] : List ByteArray) 0).toList = w := by show (D_mk w).toList = w; exact L_mkToList w
  have t0 : (rdOf ByteArray.empty ([(⟨#[115, 104, 101, 101, 116]⟩ : ByteArray), (⟨#[114, 101, 115, 116]⟩ : ByteArray), (⟨#[114, 101, 112, 108, 101, 110, 105, 115, 104]⟩ : ByteArray)] : List ByteArray) 0).toList = [115, 104, 101, 101, 116] := by rw [Lib.toList_data]; rfl
  have t1 : (rdOf ByteArray.empty ([(⟨#[115, 104, 101, 101, 116]⟩ : ByteArray), (⟨#[114, 101, 115, 116]⟩ : ByteArray), (⟨#[114, 101, 112, 108, 101, 110, 105, 115, 104]⟩ : ByteArray)] : List ByteArray) 1).toList = [114, 101, 115, 116] := by rw [Lib.toList_data]; rfl
  have t2 : (rdOf ByteArray.empty ([(⟨#[115, 104, 101, 101, 116]⟩ : ByteArray), (⟨#[114, 101, 115, 116]⟩ : ByteArray), (⟨#[114, 101, 112, 108, 101, 110, 105, 115, 104]⟩ : ByteArray)] : List ByteArray) 2).toList = [114, 101, 112, 108, 101, 110, 105, 115, 104] := by rw [Lib.toList_data]; rfl
  have w0 : wrap64 (0 + 1) = 1 := L_w (x := 0 + 1) (by omega)
  have w1 : wrap64 (1 + 1) = 2 := L_w (x := 1 + 1) (by omega)
  have w2 : wrap64 (2 + 1) = 3 := L_w (x := 2 + 1) (by omega)
  have i0 : IntKind.i8.wrap 0 = 0 := L_w8 (x := 0) (by omega)
  have i1 : IntKind.i8.wrap 1 = 1 := L_w8 (x := 1) (by omega)
  have i2 : IntKind.i8.wrap 2 = 2 := L_w8 (x := 2) (by omega)
  unfold D_kind
  simp only [spec_ReadActs.l1, spec_l04Words.f, Option.bind_some, e0, List.length_cons, List.length_nil]
  simp only [show ((0 : Int) < 3) = True from eq_true (by decide), show ((1 : Int) < 3) = True from eq_true (by decide), show ((2 : Int) < 3) = True from eq_true (by decide), show ((0 : Int) ≤ 0) = True from eq_true (by decide), show ((0 : Int) ≤ 1) = True from eq_true (by decide), show ((0 : Int) ≤ 2) = True from eq_true (by decide), show ((3 : Int) < 3) = False from eq_false (by decide), w0, w1, w2, i0, i1, i2, t0, t1, t2, if_true, if_false, ho,
    show ((0 : Int) < ((0 + 1 + 1 + 1 : Nat) : Int)) = True from eq_true (by decide), show ((1 : Int) < ((0 + 1 + 1 + 1 : Nat) : Int)) = True from eq_true (by decide), show ((2 : Int) < ((0 + 1 + 1 + 1 : Nat) : Int)) = True from eq_true (by decide), show ((0 : Int) < ((0 + 1 + 1 : Nat) : Int)) = True from eq_true (by decide)]
  by_cases h0 : w = [115, 104, 101, 101, 116]
  · subst h0; simp
  · by_cases h1 : w = [114, 101, 115, 116]
    · subst h1; simp
    · by_cases h2 : w = [114, 101, 112, 108, 101, 110, 105, 115, 104]
      · subst h2; simp
      · simp [h0, h1, h2, Ne.symm h0, Ne.symm h1, Ne.symm h2, eq_comm]

theorem L_kindB (w : List UInt8) : -1 ≤ D_kind w ∧ D_kind w ≤ 2 := by
  unfold D_kind
  split
  · omega
  · split
    · omega
    · split <;> omega

theorem L_readLoop (L : List (List UInt8)) (hL : L.length ≤ 1048577) (hx : ∀ x ∈ L, x.length ≤ 1048576) (d : Nat) : ∀ (k : Nat) (o : List S56) (i : Nat), i + (d + 1) = L.length → 8 * d + 4000000 < k → o.length ≤ i → D_actB o →
    spec_ReadActs.l0 k (L.map D_mk) o true (i : Int) = some (D_actRes (D_rdActs (L.drop i) o)) := by
  induction d with
  | zero =>
    intro k o i hi hk ho hB
    obtain ⟨k, rfl⟩ : ∃ m, k = m + 2 := ⟨k - 2, by omega⟩
    have hlt : i < L.length := by omega
    rw [spec_ReadActs.l0, L_w (x := (i : Int) + 1) (by omega), List.length_map, if_neg (by omega), spec_ReadActs.j1, if_neg (by simp), if_pos rfl, L_specPlain o hB (by omega) (by omega), List.drop_eq_getElem_cons hlt, List.drop_eq_nil_of_le (by omega), D_rdActs]
    simp only [Option.bind_some, decide_eq_true_eq]
    by_cases h : D_told o
    · rw [if_pos h, if_pos h]; rfl
    · rw [if_neg h, if_neg h]; rfl
  | succ d ih =>
    intro k o i hi hk ho hB
    obtain ⟨k, rfl⟩ : ∃ m, k = m + 6 := ⟨k - 6, by omega⟩
    have hlt : i < L.length := by omega
    have hlt2 : i + 1 < L.length := by omega
    have hg : rdOf ByteArray.empty (L.map D_mk) (i : Int) = D_mk L[i] := by
      unfold rdOf
      rw [Int.toNat_natCast, List.getD, List.getElem?_map, List.getElem?_eq_getElem hlt]
      rfl
    have hsz := hx _ (List.getElem_mem hlt)
    rw [spec_ReadActs.l0, L_w (x := (i : Int) + 1) (by omega), List.length_map, if_pos (by omega), spec_ReadActs.j1, if_pos rfl, if_pos (by omega), List.length_map, if_pos (by omega), hg, L_split (D_mk L[i]) 32 (by omega) (by rw [L_mkSz]; exact hsz) (by rw [L_mkSz]; omega)]
    simp only [Option.bind_some, L_mkData]
    rw [List.drop_eq_getElem_cons hlt, List.drop_eq_getElem_cons hlt2, D_rdActs]
    rw [show UInt8.ofNat (32 : Int).toNat = 32 from rfl]
    generalize hq : D_splitOn 32 [] L[i] = Q
    match Q with
    | [] => exact absurd hq (L_splitOnNe _ _ _)
    | [_] => simp [D_actRes]
    | [w, n] =>
      have hr : rdOf ByteArray.empty ([w, n].map D_mk) 1 = D_mk n := rfl
      simp only [List.length_map, List.length_cons, List.length_nil]
      rw [if_pos (by decide), if_pos (by decide), hr, L_number (D_mk n) (by omega), L_mkData]
      cases hnm : D_number n with
      | none =>
        simp only [Option.bind_some]
        rw [show k + 4 = k + 4 from rfl, show ([w, n].map D_mk) = [D_mk w, D_mk n] from rfl, L_kindLoop _ o _ w n false 0 (by omega)]
        obtain ⟨k, rfl⟩ : ∃ m, k = m + 2 := ⟨k - 2, by omega⟩
        simp only [spec_ReadActs.l0, spec_ReadActs.j1, Bool.false_eq_true, if_false, ite_self]
        rfl
      | some m =>
        simp only [Option.bind_some]
        rw [show ([w, n].map D_mk) = [D_mk w, D_mk n] from rfl, L_kindLoop _ o _ w n true (m : Int) (by omega), L_w (x := (i : Int) + 1) (by omega), show (i : Int) + 1 = ((i + 1 : Nat) : Int) by omega]
        rw [ih k (o ++ [(⟨D_kind w, (m : Int)⟩ : S56)]) (i + 1) (by omega) (by omega) (by simp; omega) (by
          intro x hx
          rcases List.mem_append.1 hx with hx | hx
          · exact hB x hx
          · rw [List.mem_singleton] at hx
            subst hx
            have := L_kindB w
            dsimp only
            omega), List.drop_eq_getElem_cons hlt2]
    | _ :: _ :: _ :: _ =>
      simp only [List.length_map, List.length_cons]
      rw [if_neg (by omega)]
      rfl

theorem L_specRead (s : ByteArray) (hs : s.size ≤ 1048576) {k : Nat} (hk : 20000000 ≤ k) :
    spec_ReadActs.f k s = some (D_actRes (if (D_splitOn 10 [] s.data.toList).getLast? = some [] then D_rdActs (D_splitOn 10 [] s.data.toList) [] else none)) := by
  have hsz := Lib.size_eq s
  unfold spec_ReadActs.f
  rw [L_split s 10 (by omega) hs (by omega), show UInt8.ofNat (10 : Int).toNat = 10 from rfl]
  have hlen := L_splitOnLen 10 s.data.toList []
  have hgl := L_splitOnGlue 10 s.data.toList []
  have hne := L_splitOnNe 10 s.data.toList []
  have hmem := L_glueLen 10 (D_splitOn 10 [] s.data.toList)
  rw [hgl] at hmem
  generalize D_splitOn 10 [] s.data.toList = L at hlen hgl hne hmem ⊢
  obtain ⟨n, hn⟩ : ∃ n, L.length = n + 1 := ⟨L.length - 1, by cases L with | nil => exact absurd rfl hne | cons a b => simp⟩
  simp only [Option.bind_some, List.length_map]
  rw [L_w (by omega), if_pos (by omega), if_pos (by omega), show (L.length : Int) - 1 = (n : Int) by omega]
  have hg : rdOf ByteArray.empty (L.map D_mk) (n : Int) = D_mk (L[n]'(by omega)) := by
    unfold rdOf
    rw [Int.toNat_natCast, List.getD, List.getElem?_map, List.getElem?_eq_getElem (by omega)]
    rfl
  have hlast : L.getLast? = some (L[n]'(by omega)) := by
    rw [List.getLast?_eq_getElem?, show L.length - 1 = n by omega, List.getElem?_eq_getElem]
  rw [hg, L_mkToList, hlast]
  by_cases h : L[n]'(by omega) = []
  · rw [h, if_pos rfl]
    have := L_readLoop L (by omega) (fun x hx => by have := hmem x hx; simp only [List.nil_append] at this; omega) n k [] 0 (by omega) (by omega) (by simp) (fun x hx => by simp at hx)
    simpa using this
  · rw [if_neg (by simpa using h)]
    have hb : (L[n]'(by omega) == ([] : List UInt8)) = false := by simpa using h
    rw [hb]
    obtain ⟨k, rfl⟩ : ∃ m, k = m + 2 := ⟨k - 2, by omega⟩
    simp only [spec_ReadActs.l0, spec_ReadActs.j1, Bool.false_eq_true, if_false, ite_self]
    rfl

theorem L_splitOnSkip (b : UInt8) : ∀ (x acc r : List UInt8), b ∉ x → D_splitOn b acc (x ++ r) = D_splitOn b (acc ++ x) r
  | [], acc, r, _ => by simp
  | c :: x, acc, r, h => by
    rw [List.cons_append, D_splitOn, if_neg (fun e => h (by rw [e]; simp)), L_splitOnSkip b x _ r (fun e => h (List.mem_cons_of_mem _ e))]
    simp

theorem L_splitOnHit (b : UInt8) (x acc r : List UInt8) (h : b ∉ x) : D_splitOn b acc (x ++ b :: r) = (acc ++ x) :: D_splitOn b [] r := by
  rw [L_splitOnSkip b x acc _ h, D_splitOn, if_pos rfl]

theorem L_splitLined (b : UInt8) : ∀ (L : List (List UInt8)), (∀ x ∈ L, b ∉ x) → D_splitOn b [] (D_lined b L) = L ++ [[]]
  | [], _ => rfl
  | x :: t, h => by
    rw [D_lined, L_splitOnHit b x [] _ (h x (by simp)), L_splitLined b t (fun y hy => h y (List.mem_cons_of_mem _ hy))]
    simp

theorem L_splitOnMiss (b : UInt8) (x acc : List UInt8) (h : b ∉ x) : D_splitOn b acc x = [acc ++ x] := by
  have := L_splitOnSkip b x acc [] h
  rw [List.append_nil] at this
  rw [this, D_splitOn]

theorem L_numberDec {m : Nat} (h : (Lib.decDigits m).length ≤ 9) : D_number (Lib.decDigits m) = some m := by
  obtain ⟨c, r, e, hz⟩ := L_decHead m
  have h1 := L_numDec m
  rw [e] at h h1 ⊢
  simp only [List.length_cons] at h
  rw [D_number, if_neg (by omega), if_neg hz, h1]

theorem L_mkSize (a : List UInt8) : (⟨a.toArray⟩ : ByteArray).size = a.length := by simp [ByteArray.size]

theorem L_decShort {n : Int} (h0 : 0 ≤ n) (h : n ≤ 100000) : (Lib.decDigits n.toNat).length ≤ 7 := by
  have := L_decSz (n := n) h0 (by omega)
  rw [L_mkSize] at this
  exact this

theorem L_rdLine {x : S56} (h : 0 ≤ x.f0 ∧ x.f0 ≤ 2) (hN : 0 ≤ x.f1 ∧ x.f1 ≤ 100000) (y : List UInt8) (t : List (List UInt8)) (o : List S56) :
    D_rdActs (D_lineL x :: y :: t) o = D_rdActs (y :: t) (o ++ [x]) := by
  have hw := L_wordKind h
  have hs : D_splitOn 32 [] (D_lineL x) = [D_wordL x.f0, Lib.decDigits x.f1.toNat] := by
    unfold D_lineL
    rw [show (D_word x.f0).data.toList = D_wordL x.f0 from rfl, L_splitOnHit 32 _ [] _ hw.2.1, L_splitOnMiss 32 _ [] (L_decNo (Or.inl (by decide)))]
    rfl
  rw [D_rdActs, hs]
  simp only [L_numberDec (Nat.le_trans (L_decShort hN.1 hN.2) (by omega)), hw.1]
  rw [show ((x.f1.toNat : Nat) : Int) = x.f1 by omega]

theorem L_rdComplete : ∀ (l o : List S56), (∀ x ∈ l, (0 ≤ x.f0 ∧ x.f0 ≤ 2) ∧ 0 ≤ x.f1 ∧ x.f1 ≤ 100000) → D_rdActs (l.map D_lineL ++ [[]]) o = if D_told (o ++ l) then some (o ++ l) else none
  | [], o, _ => by simp [D_rdActs]
  | x :: l, o, h => by
    have h1 := h x (by simp)
    have h2 := L_rdComplete l (o ++ [x]) (fun y hy => h y (List.mem_cons_of_mem _ hy))
    cases hq : l.map D_lineL ++ [[]] with
    | nil => simp at hq
    | cons y t =>
      rw [List.map_cons, List.cons_append, hq, L_rdLine h1.1 h1.2, ← hq, h2]
      simp

/-- what the reference reads -/
theorem L_specOf (s : ByteArray) (hs : s.size ≤ 1048576) {k : Nat} (hk : 20000000 ≤ k) (l : List S56) (hl : D_told l) (e : s.data.toList = D_T l) : spec_ReadActs.f k s = some (l, 0) := by
  rw [L_specRead s hs hk, e]
  unfold D_T
  rw [L_splitLined 10 _ (L_linedNo hl), if_pos (by simp), L_rdComplete l [] (fun x hx => by unfold D_told at hl; exact ⟨hl.1.2 x hx, hl.1.1 x hx⟩)]
  simp only [List.nil_append]
  rw [if_pos hl]
  rfl

theorem L_implNo (s : ByteArray) (hs : s.size ≤ 1048576) (h : ∀ l, D_told l → s.data.toList ≠ D_T l) : impl_ReadActs.f s = some ([], 5) := by
  rw [L_implRead s hs, if_neg (fun e => h _ e.1 e.2)]

theorem L_u8of (c : UInt8) (n : Nat) (h : c.toNat = n) : UInt8.ofNat n = c := by rw [← h]; simp

theorem L_numInv : ∀ (l : List UInt8) (a m : Nat), 1 ≤ a → D_num l a = some m → Lib.decDigits m = Lib.decDigits a ++ l ∧ a ≤ m
  | [], a, m, _, h => by cases h; exact ⟨by simp, Nat.le_refl _⟩
  | c :: r, a, m, ha, h => by
    rw [D_num] at h
    split at h
    · rename_i hc
      obtain ⟨e, hm⟩ := L_numInv r _ m (by omega) h
      have e2 : Lib.decDigits (10 * a + (c.toNat - 48)) = Lib.decDigits a ++ [c] := by
        rw [Lib.decDigits, dif_neg (by omega), show (10 * a + (c.toNat - 48)) / 10 = a by omega, show 48 + (10 * a + (c.toNat - 48)) % 10 = c.toNat by omega, L_u8of c _ rfl]
      rw [e, e2]
      exact ⟨by simp, by omega⟩
    · cases h

/-- a number with no zero ahead is its own numeral -/
theorem L_numCanon (c : UInt8) (r : List UInt8) (m : Nat) (hz : ¬ (c.toNat = 48 ∧ r ≠ [])) (h : D_num (c :: r) 0 = some m) : Lib.decDigits m = c :: r := by
  rw [D_num] at h
  split at h
  · rename_i hc
    by_cases h0 : c.toNat = 48
    · have hr : r = [] := Classical.byContradiction fun e => hz ⟨h0, e⟩
      subst hr
      rw [h0] at h
      cases h
      rw [Lib.decDigits, dif_pos (by omega), L_u8of c _ (by omega)]
    · obtain ⟨e, _⟩ := L_numInv r _ m (by omega) h
      rw [e, Lib.decDigits, dif_pos (by omega), L_u8of c _ (by omega)]
      rfl
  · cases h

theorem L_numberSound {l : List UInt8} {m : Nat} (h : D_number l = some m) : l = Lib.decDigits m ∧ l.length ≤ 9 := by
  cases l with
  | nil => cases h
  | cons c r =>
    rw [D_number] at h
    split at h
    · cases h
    · rename_i h9
      split at h
      · cases h
      · rename_i hz
        exact ⟨(L_numCanon c r m hz h).symm, by simp only [List.length_cons]; omega⟩

theorem L_kindWord {w : List UInt8} (h : 0 ≤ D_kind w) : D_wordL (D_kind w) = w := by
  unfold D_kind at h ⊢
  by_cases h2 : w = [114, 101, 112, 108, 101, 110, 105, 115, 104]
  · rw [if_pos h2, h2]; rfl
  · rw [if_neg h2] at h ⊢
    by_cases h1 : w = [114, 101, 115, 116]
    · rw [if_pos h1, h1]; rfl
    · rw [if_neg h1] at h ⊢
      by_cases h0 : w = [115, 104, 101, 101, 116]
      · rw [if_pos h0, h0]; rfl
      · rw [if_neg h0] at h; omega

theorem L_rdSound : ∀ (L : List (List UInt8)) (o o' : List S56), D_rdActs L o = some o' → D_told o' ∧ ∃ acts z, o' = o ++ acts ∧ L = acts.map D_lineL ++ [z]
  | [], _, _, h => by cases h
  | [z], o, o', h => by
    rw [D_rdActs] at h
    split at h
    · rename_i ht
      cases h
      exact ⟨ht, [], z, by simp, rfl⟩
    · cases h
  | x :: y :: t, o, o', h => by
    rw [D_rdActs] at h
    split at h
    · rename_i w n hq
      split at h
      · rename_i m hm
        obtain ⟨ht, acts, z, e1, e2⟩ := L_rdSound (y :: t) _ o' h
        refine ⟨ht, ⟨D_kind w, (m : Int)⟩ :: acts, z, by rw [e1]; simp, ?_⟩
        have hk : D_kinds o' := by unfold D_told at ht; exact ht.1.2
        have hk0 : 0 ≤ D_kind w := (hk ⟨D_kind w, (m : Int)⟩ (by rw [e1]; simp)).1
        have hg := L_splitOnGlue 32 x []
        rw [hq] at hg
        simp only [D_glue, List.nil_append] at hg
        have hn := (L_numberSound hm).1
        rw [List.map_cons, List.cons_append, ← e2]
        congr 1
        unfold D_lineL
        rw [← hg, show (D_word (D_kind w)).data.toList = w from L_kindWord hk0, hn]
        simp
      · cases h
    · cases h

theorem L_glueLined (b : UInt8) : ∀ (L : List (List UInt8)), D_glue b (L ++ [[]]) = D_lined b L
  | [] => rfl
  | x :: t => by
    have h := L_glueLined b t
    cases hq : t ++ [[]] with
    | nil => simp at hq
    | cons y u =>
      rw [List.cons_append, hq, D_glue, D_lined, ← h, hq]

theorem L_specNo (s : ByteArray) (hs : s.size ≤ 1048576) {k : Nat} (hk : 20000000 ≤ k) (h : ∀ l, D_told l → s.data.toList ≠ D_T l) : spec_ReadActs.f k s = some ([], 5) := by
  rw [L_specRead s hs hk]
  by_cases hl : (D_splitOn 10 [] s.data.toList).getLast? = some []
  · rw [if_pos hl]
    cases hq : D_rdActs (D_splitOn 10 [] s.data.toList) [] with
    | none => rfl
    | some o =>
      obtain ⟨ht, acts, z, e1, e2⟩ := L_rdSound _ _ _ hq
      have hz : z = [] := by
        rw [e2] at hl
        simpa using hl
      subst hz
      have hg := L_splitOnGlue 10 s.data.toList []
      rw [e2, L_glueLined] at hg
      simp only [List.nil_append] at e1 hg
      subst e1
      exact absurd hg.symm (h _ ht)
  · rw [if_neg hl]; rfl

theorem L_readBoth (s : ByteArray) (hs : s.size ≤ 1048576) : ∃ o c, (o.length ≤ 60) ∧ impl_ReadActs.f s = some (o, c) ∧ ∀ k, 20000000 ≤ k → spec_ReadActs.f k s = some (o, c) := by
  by_cases h : ∃ l, D_told l ∧ s.data.toList = D_T l
  · obtain ⟨l, hl, e⟩ := h
    exact ⟨l, 0, by unfold D_told at hl; omega, L_implOf s hs l hl e, fun k hk => L_specOf s hs hk l hl e⟩
  · have h' : ∀ l, D_told l → s.data.toList ≠ D_T l := fun l hl e => h ⟨l, hl, e⟩
    exact ⟨[], 5, by simp, L_implNo s hs h', fun k hk => L_specNo s hs hk h'⟩

theorem L_eqActs (l : List S56) (hn : l.length ≤ 140737488351232) {k : Nat} (hk : l.length < k) : laws_eqActS.f k l l = some true := by
  have H : ∀ (d : Nat) (k : Nat) (i : Int), 0 ≤ i → i + d = l.length → d < k → laws_eqActS.l0 k l l i = some true := by
    intro d
    induction d with
    | zero =>
      intro k i h0 hd hk
      obtain ⟨k, rfl⟩ : ∃ m, k = m + 1 := ⟨k - 1, by omega⟩
      simp only [laws_eqActS.l0]; rw [if_neg (by omega)]
    | succ d ih =>
      intro k i h0 hd hk
      obtain ⟨k, rfl⟩ : ∃ m, k = m + 1 := ⟨k - 1, by omega⟩
      simp only [laws_eqActS.l0, laws_eqAct.f, if_true, Option.bind_some]; rw [if_pos (by omega), if_pos h0, if_pos (by omega), L_w (x := i + 1) (by omega)]
      exact ih k (i + 1) (by omega) (by omega) (by omega)
  unfold laws_eqActS.f; rw [if_pos rfl]; exact H l.length k 0 (by omega) (by omega) hk

theorem L_rdNeA {l : List S56} {i j : Int} {x : S56} (h0 : 0 ≤ i) (hj : 0 ≤ j) (h : j ≠ i) : rd_T56 (l.set i.toNat x) j = rd_T56 l j := by
  unfold rd_T56
  rw [List.getD, List.getD, List.getElem?_set_ne (by omega)]

theorem L_rdSetA {l : List S56} {i : Int} {x : S56} (h0 : 0 ≤ i) (h : i < l.length) : rd_T56 (l.set i.toNat x) i = x := by
  unfold rd_T56
  rw [List.getD, List.getElem?_set_self (by omega)]
  rfl

theorem L_markActSt (n : Nat) (hn : n ≤ 1048576) (d : Nat) : ∀ (k : Nat) (l : List S56) (v i : Int), l.length = n → 0 ≤ i → i + d = n → d < k → 0 ≤ v → v ≤ 1000000000 + 2 * i →
    ∃ l', laws_markActS.l0 k l v i = some (v + 2 * d, l') ∧ l'.length = n ∧ (∀ j : Int, 0 ≤ j → j < i → rd_T56 l' j = rd_T56 l j) ∧
      (∀ j : Int, i ≤ j → j < n → (rd_T56 l' j).f0 = IntKind.i8.wrap (v + 2 * (j - i)) ∧ (rd_T56 l' j).f1 = v + 2 * (j - i) + 1) := by
  induction d with
  | zero =>
    intro k l v i hl h0 hd hk hv hv2
    obtain ⟨k, rfl⟩ : ∃ m, k = m + 1 := ⟨k - 1, by omega⟩
    refine ⟨l, ?_, hl, fun _ _ _ => rfl, fun j h1 h2 => by omega⟩
    simp only [laws_markActS.l0]; rw [if_neg (by omega)]; simp
  | succ d ih =>
    intro k l v i hl h0 hd hk hv hv2
    obtain ⟨k, rfl⟩ : ∃ m, k = m + 1 := ⟨k - 1, by omega⟩
    have key : ∀ y : List S56, y.length = n → (∀ j : Int, 0 ≤ j → j < i → rd_T56 y j = rd_T56 l j) → (rd_T56 y i).f0 = IntKind.i8.wrap v → (rd_T56 y i).f1 = v + 1 →
        ∃ l', laws_markActS.l0 k y (v + 1 + 1) (i + 1) = some (v + 2 * ((d + 1 : Nat) : Int), l') ∧ l'.length = n ∧ (∀ j : Int, 0 ≤ j → j < i → rd_T56 l' j = rd_T56 l j) ∧
          (∀ j : Int, i ≤ j → j < n → (rd_T56 l' j).f0 = IntKind.i8.wrap (v + 2 * (j - i)) ∧ (rd_T56 l' j).f1 = v + 2 * (j - i) + 1) := by
      intro y hy hy1 hy2 hy3
      obtain ⟨l', e, hl', h1, h2⟩ := ih k y (v + 1 + 1) (i + 1) hy (by omega) (by omega) (by omega) (by omega) (by omega)
      refine ⟨l', by rw [e]; congr 2; omega, hl', fun j hj hj2 => by rw [h1 j hj (by omega), hy1 j hj hj2], fun j hj hj2 => ?_⟩
      by_cases e2 : j = i
      · subst e2
        rw [h1 j (by omega) (by omega), hy2, hy3]; simp
      · have := h2 j (by omega) hj2
        rw [show v + 1 + 1 + 2 * (j - (i + 1)) = v + 2 * (j - i) by omega] at this
        exact this
    simp only [laws_markActS.l0, Option.bind_some]
    rw [if_pos (by omega), if_pos h0, L_w (x := v + 1) (by omega), L_w (x := v + 1 + 1) (by omega), L_w (x := i + 1) (by omega)]
    refine key _ (by simpa using hl) (fun j hj hj2 => ?_) ?_ ?_
    · rw [L_rdNeA h0 hj (by omega), L_rdNeA h0 hj (by omega)]
    · rw [L_rdSetA h0 (by simp <;> omega), L_rdSetA h0 (by omega)]
    · rw [L_rdSetA h0 (by simp <;> omega)]

theorem L_heldAct (n : Nat) (hn : n ≤ 1048576) (l : List S56) (hl : l.length = n) (d : Nat) : ∀ (k : Nat) (v i : Int), 0 ≤ i → i + d = n → d < k → 0 ≤ v → v ≤ 1000000000 + 2 * i →
    (∀ j : Int, i ≤ j → j < n → (rd_T56 l j).f0 = IntKind.i8.wrap (v + 2 * (j - i)) ∧ (rd_T56 l j).f1 = v + 2 * (j - i) + 1) →
    laws_heldActS.l0 k l v i = some (v + 2 * d) := by
  induction d with
  | zero =>
    intro k v i h0 hd hk hv hv2 h
    obtain ⟨k, rfl⟩ : ∃ m, k = m + 1 := ⟨k - 1, by omega⟩
    simp only [laws_heldActS.l0]; rw [if_neg (by omega)]; simp
  | succ d ih =>
    intro k v i h0 hd hk hv hv2 h
    obtain ⟨k, rfl⟩ : ∃ m, k = m + 1 := ⟨k - 1, by omega⟩
    obtain ⟨h1, h2⟩ := h i (by omega) (by omega)
    rw [show v + 2 * (i - i) = v by omega] at h1 h2
    simp only [laws_heldActS.l0]
    rw [if_pos (by omega), if_pos h0, if_pos h1, L_w (x := v + 1) (by omega), if_pos h2, L_w (x := v + 1 + 1) (by omega), L_w (x := i + 1) (by omega),
      ih k (v + 1 + 1) (i + 1) (by omega) (by omega) (by omega) (by omega) (by omega) (fun j hj hj2 => by have := h j (by omega) hj2; rwa [show v + 1 + 1 + 2 * (j - (i + 1)) = v + 2 * (j - i) by omega])]
    congr 1; omega

theorem L_markHeldAct (l : List S56) (hn : l.length ≤ 1048576) {k : Nat} (hk : l.length < k) : ∃ l', laws_markActS.f k l 1 = some (1 + 2 * (l.length : Int), l') ∧ (∀ q, l.length < q → laws_heldActS.f q l' 1 = some (1 + 2 * (l.length : Int))) := by
  obtain ⟨l', e, hl', _, h2⟩ := L_markActSt l.length hn l.length k l 1 0 rfl (by omega) (by omega) hk (by omega) (by omega)
  exact ⟨l', e, fun q hq => L_heldAct l.length hn l' hl' l.length q 1 0 (by omega) (by omega) hq (by omega) (by omega) h2⟩

theorem FnExactReadActs : ∀ (a0 : ByteArray), a0.size ≤ 140737488351232 → ∃ k, laws_FnExactReadActs.f k a0 = some true := by
  intro s hs
  refine ⟨20000100, ?_⟩
  unfold laws_FnExactReadActs.f
  by_cases h : (s.size : Int) > 1048576
  · rw [if_pos h]
  · obtain ⟨o, c, ho, e1, e2⟩ := L_readBoth s (by omega)
    rw [if_neg h, e2 _ (by omega), e1]
    simp only [Option.bind_some]
    rw [L_eqActs o (by omega) (by omega)]
    simp only [Option.bind_some, if_true, bne_self_eq_false]
    rw [laws_FnExactReadActs.j0, if_neg (by simp)]
    obtain ⟨l', em, eh⟩ := L_markHeldAct o (by omega) (k := 20000099) (by omega)
    rw [em]
    simp only [Option.bind_some]
    rw [eh _ (by omega)]
    simp only [Option.bind_some]
    rw [if_neg (by omega), if_pos trivial, e1]
    simp only [Option.bind_some]
    rw [L_eqActs o (by omega) (by omega)]
    simp only [Option.bind_some, if_true, bne_self_eq_false]
    rw [laws_FnExactReadActs.j1, if_neg (by simp), eh _ (by omega)]
    simp only [Option.bind_some]
    rw [if_neg (by omega), if_pos trivial]

end Go.Proofs.YtiehbagnebjadaaDoor.Pure
