-- Plain lemmas on acts that are done.
import Derived.Test.YtiehbagnebjadaaGreatDoorQx4
import Derived.Test.YtiehbagnebjadaaGreatDoorQx5
import Derived.Test.YtiehbagnebjadaaGreatDoorQx6
import Derived.Test.YtiehbagnebjadaaGreatDoorQx10
import Derived.Test.YtiehbagnebjadaaGreatDoorQx11
import Derived.Test.YtiehbagnebjadaaGreatDoorArrKit
import Derived.Lib.SplitLaws
import Derived.Lib.ParseIntBCases
import Derived.Lib.ItoaNum
import Derived.Lib.IndexMore
namespace Go.Proofs.YtiehbagnebjadaaGreatDoor.PL
open Go.RowKit Go.Proofs.YtiehbagnebjadaaGreatDoor.Q Go.Proofs.YtiehbagnebjadaaGreatDoorW.PrintWords Go.Proofs.YtiehbagnebjadaaGreatDoorW.PrintLast Go.Proofs.YtiehbagnebjadaaGreatDoorW.PrintMore
set_option linter.unusedVariables false
set_option linter.unusedSimpArgs false
def D_actB (l : List S65) : Prop := ∀ x ∈ l, -128 ≤ x.f0 ∧ x.f0 ≤ 127

def D_kinds (l : List S65) : Prop := ∀ x ∈ l, 0 ≤ x.f0 ∧ x.f0 ≤ 2
instance (l : List S65) : Decidable (D_kinds l) := by unfold D_kinds; infer_instance

def D_told (l : List S65) : Prop := ((∀ x ∈ l, 0 ≤ x.f1 ∧ x.f1 ≤ 100000) ∧ D_kinds l) ∧ (l.length : Int) ≤ 60
instance (l : List S65) : Decidable (D_told l) := by unfold D_told; infer_instance

def D_word (z : Int) : ByteArray := rdOf ByteArray.empty ([(⟨#[115, 104, 101, 101, 116]⟩ : ByteArray), (⟨#[114, 101, 115, 116]⟩ : ByteArray), (⟨#[114, 101, 112, 108, 101, 110, 105, 115, 104]⟩ : ByteArray)] : List ByteArray) z

def D_actsText : List S65 → ByteArray → ByteArray
  | [], s => s
  | x :: r, s => D_actsText r (s ++ (((D_word x.f0 ++ (⟨#[32]⟩ : ByteArray)) ++ (⟨(Lib.decDigits x.f1.toNat).toArray⟩ : ByteArray)) ++ (⟨#[10]⟩ : ByteArray)))

theorem L_idxAnyOn {α : Type} (q : α → Option Bool) (p : α → Bool) : ∀ (l : List α) (i : Int), (∀ x ∈ l, q x = some (p x)) → 0 ≤ i → ∃ r, D_idx q l i = some r ∧ (l.any p = false → r = -1) ∧ (l.any p = true → 0 ≤ r)
  | [], i, _, hi => ⟨-1, rfl, fun _ => rfl, fun h => by simp at h⟩
  | x :: t, i, h, hi => by
    simp only [D_idx, h x (by simp), Option.bind_some]
    by_cases hx : p x = true
    · rw [if_pos hx]
      exact ⟨i, rfl, fun h => by simp [hx] at h, fun _ => hi⟩
    · rw [if_neg hx]
      obtain ⟨r, h1, h2, h3⟩ := L_idxAnyOn q p t (i + 1) (fun y hy => h y (by simp [hy])) (by omega)
      refine ⟨r, h1, fun h => h2 (by simpa [hx] using h), fun h => h3 (by simpa [hx] using h)⟩

theorem L_w {x : Int} (h : -9223372036854775808 ≤ x ∧ x ≤ 9223372036854775807) : wrap64 x = x := by unfold wrap64; omega

theorem L_sd {p q : Prop} [Decidable p] [Decidable q] (h : p ↔ q) : some (decide p) = some (decide q) := by rw [decide_eq_decide.mpr h]

theorem L_sf {q : Prop} [Decidable q] (h : ¬ q) : some false = some (decide q) := by rw [decide_eq_false h]

theorem L_within (a b c : Int) : impl_within.f a b c = some (decide (b ≤ a ∧ a ≤ c)) := by
  unfold impl_within.f
  split
  · exact L_sd (by omega)
  · exact L_sf (by omega)

theorem L_anyIff {α : Type} (P : α → Prop) [DecidablePred P] (l : List α) (r : Int) (h2 : l.any (fun x => !decide (P x)) = false → r = -1) (h3 : l.any (fun x => !decide (P x)) = true → 0 ≤ r) [Decidable (∀ x ∈ l, P x)] :
    decide (0 ≤ r) = !decide (∀ x ∈ l, P x) := by
  by_cases h : ∀ x ∈ l, P x
  · have e : l.any (fun x => !decide (P x)) = false := by rw [List.any_eq_false]; intro x hx; simp [h x hx]
    rw [h2 e, decide_eq_true h]
    rfl
  · have e : l.any (fun x => !decide (P x)) = true := by
      rw [List.any_eq_true]
      obtain ⟨x, hx⟩ := Classical.not_forall.1 h
      obtain ⟨hx, hh⟩ := Classical.not_imp.1 hx
      exact ⟨x, hx, by simp only [Bool.not_eq_true', decide_eq_false_iff_not]; exact hh⟩
    rw [decide_eq_false h, decide_eq_true (h3 e)]
    rfl


theorem L_implKinds (l : List S65) (h8 : D_actB l) : impl_areKinds.f l = some (decide (D_kinds l)) := by
  unfold impl_areKinds.f impl_Act_152.f impl_Act_189.f
  rw [if_pos rfl]
  obtain ⟨r, h1, h2, h3⟩ := L_idxAnyOn (fun x : S65 => impl_areKinds_1.f x.f0 x.f1) (fun x => !decide (0 ≤ x.f0 ∧ x.f0 ≤ 2)) l 0 (fun x hx => by
    have := h8 x hx
    unfold impl_areKinds_1.f
    rw [L_w (x := x.f0) (by omega), L_within]; rfl) (by omega)
  rw [h1]
  simp only [Option.bind_some]
  rw [L_anyIff (fun x : S65 => 0 ≤ x.f0 ∧ x.f0 ≤ 2) l r h2 h3]
  simp only [Bool.not_not]
  rfl

theorem L_implTold (l : List S65) (h8 : D_actB l) : impl_areTold.f l = some (decide (D_told l)) := by
  unfold impl_areTold.f D_told
  rw [L_implKinds l h8]
  simp only [Option.bind_some, decide_eq_true_eq]
  by_cases h1 : (l.length : Int) ≤ 60
  · rw [if_pos h1]
    by_cases h2 : D_kinds l
    · rw [if_pos h2]
      unfold impl_Act_152.f impl_Act_189.f
      rw [if_neg (by decide), if_pos rfl]
      obtain ⟨r, e1, e2, e3⟩ := L_idxAnyOn (fun x : S65 => impl_areTold_1.f x.f0 x.f1) (fun x => !decide (0 ≤ x.f1 ∧ x.f1 ≤ 100000)) l 0 (fun x hx => by
        unfold impl_areTold_1.f
        rw [L_within]; rfl) (by omega)
      rw [e1]
      simp only [Option.bind_some]
      rw [L_anyIff (fun x : S65 => 0 ≤ x.f1 ∧ x.f1 ≤ 100000) l r e2 e3]
      simp only [Bool.not_not]
      exact L_sd ⟨fun x => ⟨⟨x, h2⟩, h1⟩, fun x => x.1.1⟩
    · rw [if_neg h2]
      exact L_sf (fun x => h2 x.1.2)
  · rw [if_neg h1]
    exact L_sf (fun x => h1 x.2)

theorem L_rdAS {l : List S65} {i : Int} (h0 : 0 ≤ i) (h : i < l.length) : ∃ hi : i.toNat < l.length, rd_T65 l i = l[i.toNat]'hi :=
  ⟨by omega, by unfold rd_T65; rw [List.getD_eq_getElem?_getD, List.getElem?_eq_getElem (by omega)]; rfl⟩

theorem L_wordSize {z : Int} (h : 0 ≤ z ∧ z ≤ 2) : (D_word z).size ≤ 9 := by
  obtain rfl | rfl | rfl : z = 0 ∨ z = 1 ∨ z = 2 := by omega
  · decide
  · decide
  · decide

theorem L_decLen : ∀ (d n : Nat), n < 10 ^ d → 1 ≤ d → (Lib.decDigits n).length ≤ d
  | 0, _, _, h => absurd h (by omega)
  | d + 1, n, h, _ => by
    rw [Lib.decDigits]
    split
    · simp
    · rename_i hn
      have hp : 10 ^ (d + 1) = 10 ^ d * 10 := Nat.pow_succ ..
      have hd : 1 ≤ d := by
        cases d with
        | zero => simp at h; omega
        | succ d => omega
      have := L_decLen d (n / 10) (by omega) hd
      rw [List.length_append]
      simp only [List.length_cons, List.length_nil]
      omega

theorem L_decSz {n : Int} (h0 : 0 ≤ n) (h : n < 1000000) : (⟨(Lib.decDigits n.toNat).toArray⟩ : ByteArray).size ≤ 7 := by
  have := L_decLen 6 n.toNat (by omega) (by omega)
  have e : (⟨(Lib.decDigits n.toNat).toArray⟩ : ByteArray).size = (Lib.decDigits n.toNat).length := by simp [ByteArray.size]
  omega

theorem L_implDecT {n : Int} (h0 : 0 ≤ n) (h : n ≤ 100000) : impl_decimal.f n = some ⟨(Lib.decDigits n.toNat).toArray⟩ := by
  unfold impl_decimal.f Lib.itoa
  rw [if_pos (by omega), if_pos (by omega), if_neg (by omega)]

theorem L_implTextLoop (l : List S65) (hN : ∀ x ∈ l, 0 ≤ x.f1 ∧ x.f1 ≤ 100000) (hK : D_kinds l) (hn : (l.length : Int) ≤ 60) (d : Nat) : ∀ (k : Nat) (s : ByteArray) (i : Int), 0 ≤ i → i + d = l.length → d < k → (s.size : Int) ≤ 18 * i →
    impl_actsText.l0 k s l (l.length : Int) i = some (D_actsText (l.drop i.toNat) s) := by
  induction d with
  | zero =>
    intro k s i h0 hd hk hs
    obtain ⟨k, rfl⟩ : ∃ m, k = m + 1 := ⟨k - 1, by omega⟩
    simp only [impl_actsText.l0]
    rw [if_neg (by omega), List.drop_eq_nil_of_le (by omega)]
    rfl
  | succ d ih =>
    intro k s i h0 hd hk hs
    obtain ⟨k, rfl⟩ : ∃ m, k = m + 1 := ⟨k - 1, by omega⟩
    obtain ⟨hi, e⟩ := L_rdAS (l := l) (i := i) h0 (by omega)
    have h1 := hN _ (List.getElem_mem hi)
    have h2 := hK _ (List.getElem_mem hi)
    rw [← e] at h1 h2
    have sp : (⟨#[32]⟩ : ByteArray).size = 1 := rfl
    have nl : (⟨#[10]⟩ : ByteArray).size = 1 := rfl
    have hw := L_wordSize h2
    have hdd := L_decSz (n := (rd_T65 l i).f1) h1.1 (by omega)
    simp only [impl_actsText.l0, impl_actWords.f, Option.bind_some]
    rw [show rdOf ByteArray.empty ([(⟨#[115, 104, 101, 101, 116]⟩ : ByteArray), (⟨#[114, 101, 115, 116]⟩ : ByteArray), (⟨#[114, 101, 112, 108, 101, 110, 105, 115, 104]⟩ : ByteArray)] : List ByteArray) (rd_T65 l i).f0 = D_word (rd_T65 l i).f0 from rfl]
    simp only [List.length_cons, List.length_nil, Nat.zero_add, Nat.reduceAdd]
    rw [if_pos (show i < (l.length : Int) by omega), if_pos h0, if_pos (show i < (l.length : Int) by omega), if_pos h2.1, if_pos (show (rd_T65 l i).f0 < ((3 : Nat) : Int) by omega), if_pos (by omega), L_implDecT h1.1 h1.2]
    simp only [Option.bind_some]
    generalize hq : (⟨(Lib.decDigits (rd_T65 l i).f1.toNat).toArray⟩ : ByteArray) = q at hdd ⊢
    rw [if_pos (by rw [ByteArray.size_append]; omega), if_pos (by rw [ByteArray.size_append, ByteArray.size_append]; omega), if_pos (by rw [ByteArray.size_append, ByteArray.size_append, ByteArray.size_append]; omega), L_w (x := i + 1) (by omega)]
    rw [ih k _ (i + 1) (by omega) (by omega) (by omega) (by rw [ByteArray.size_append, ByteArray.size_append, ByteArray.size_append, ByteArray.size_append]; omega), List.drop_eq_getElem_cons hi, ← e, show (i + 1).toNat = i.toNat + 1 by omega]
    simp only [D_actsText, hq]

theorem L_actsImpl (l : List S65) (h8 : D_actB l) {k : Nat} (hk : 2 * l.length + 100 < k) (h : D_told l) : impl_ActsText.f k l = some (D_actsText l ⟨#[]⟩) := by
  unfold impl_ActsText.f impl_actsText.f
  rw [L_implTold l h8]
  simp only [Option.bind_some, decide_eq_true_eq]
  rw [if_pos h]
  have h' := h
  unfold D_told at h'
  rw [L_implTextLoop l h'.1.1 h'.1.2 h'.2 l.length k _ 0 (by omega) (by omega) (by omega) (by decide)]
  rfl

/-- the text of lines that end in b -/
def D_lined (b : UInt8) : List (List UInt8) → List UInt8
  | [] => []
  | x :: t => x ++ b :: D_lined b t

/-- the line of an act -/
def D_lineL (x : S65) : List UInt8 := (D_word x.f0).data.toList ++ 32 :: Lib.decDigits x.f1.toNat

def D_T (l : List S65) : List UInt8 := D_lined 10 (l.map D_lineL)

def D_mk (x : List UInt8) : ByteArray := ⟨x.toArray⟩

theorem L_linedLen (b : UInt8) : ∀ L : List (List UInt8), L.length ≤ (D_lined b L).length
  | [] => by simp
  | x :: t => by
    have := L_linedLen b t
    rw [D_lined, List.length_append, List.length_cons, List.length_cons]
    omega

theorem L_mkList (s : ByteArray) : D_mk s.data.toList = s := by
  obtain ⟨⟨l⟩⟩ := s
  rfl

theorem L_mapMk : ∀ (L : List ByteArray) (M : List (List UInt8)), L.map (·.data.toList) = M → L = M.map D_mk
  | [], M, h => by subst h; rfl
  | s :: L, M, h => by
    subst h
    rw [List.map_cons, List.map_cons, L_mkList, ← L_mapMk L _ rfl]

theorem L_index1 (b : UInt8) : ∀ (x r : List UInt8), b ∉ x → Lib.index (x ++ b :: r) [b] = (x.length : Int)
  | [], r, _ => by simp [Lib.index, List.isPrefixOf]
  | c :: x, r, h => by
    have hc : ¬ b = c := fun e => h (by rw [e]; simp)
    have ih := L_index1 b x r (fun e => h (List.mem_cons_of_mem _ e))
    rw [List.cons_append, Lib.index, if_neg (by simp [List.isPrefixOf, hc]), ih, if_neg (by simp)]
    simp

theorem L_splitK (b : UInt8) : ∀ (L : List (List UInt8)) (k : Nat), (∀ x ∈ L, b ∉ x) → L.length ≤ k → Lib.splitK [b] 0 k (D_lined b L) = L ++ [[]]
  | [], k, _, _ => by
    cases k with
    | zero => rfl
    | succ k => simp [Lib.splitK, D_lined, Lib.index]
  | x :: t, k, h, hk => by
    obtain ⟨k, rfl⟩ : ∃ m, k = m + 1 := ⟨k - 1, by simp only [List.length_cons] at hk; omega⟩
    rw [D_lined, Lib.splitK, L_index1 b x _ (h x (by simp)), if_neg (by simp)]
    have e1 : (x ++ b :: D_lined b t).take ((x.length : Int).toNat + 0) = x := by simp
    have e2 : (x ++ b :: D_lined b t).drop ((x.length : Int).toNat + ([b] : List UInt8).length) = D_lined b t := by
      rw [Int.toNat_natCast, List.drop_append, List.drop_eq_nil_of_le (by simp)]
      simp
    rw [e1, e2, L_splitK b t k (fun y hy => h y (List.mem_cons_of_mem _ hy)) (by simp only [List.length_cons] at hk; omega)]
    rfl

def D_kind (w : List UInt8) : Int := if w = [114, 101, 112, 108, 101, 110, 105, 115, 104] then 2 else if w = [114, 101, 115, 116] then 1 else if w = [115, 104, 101, 101, 116] then 0 else -1

def D_wordL (z : Int) : List UInt8 := (D_word z).data.toList

theorem L_wordKind {z : Int} (h : 0 ≤ z ∧ z ≤ 2) : D_kind (D_wordL z) = z ∧ (32 : UInt8) ∉ D_wordL z ∧ (10 : UInt8) ∉ D_wordL z := by
  obtain rfl | rfl | rfl : z = 0 ∨ z = 1 ∨ z = 2 := by omega
  · decide
  · decide
  · decide

theorem L_decDig : ∀ (n : Nat), ∀ c ∈ Lib.decDigits n, 48 ≤ c.toNat ∧ c.toNat ≤ 57 := by
  intro n
  induction n using Nat.strongRecOn with
  | _ n ih =>
    intro c hc
    rw [Lib.decDigits] at hc
    split at hc
    · rename_i h
      rw [List.mem_singleton] at hc
      rw [hc, UInt8.toNat_ofNat']
      omega
    · rename_i h
      rcases List.mem_append.1 hc with hc | hc
      · exact ih (n / 10) (by omega) c hc
      · rw [List.mem_singleton] at hc
        rw [hc, UInt8.toNat_ofNat']
        omega

theorem L_decNo {n : Nat} {b : UInt8} (h : b.toNat < 48 ∨ 57 < b.toNat) : b ∉ Lib.decDigits n := fun e => by
  have := L_decDig n b e
  omega

theorem L_lineNo {x : S65} (h : 0 ≤ x.f0 ∧ x.f0 ≤ 2) : (10 : UInt8) ∉ D_lineL x := by
  unfold D_lineL
  have := (L_wordKind h).2.2
  unfold D_wordL at this
  simp only [List.mem_append, List.mem_cons, not_or]
  exact ⟨this, by decide, L_decNo (Or.inl (by decide))⟩

theorem L_linedNo {l : List S65} (h : D_told l) : ∀ x ∈ l.map D_lineL, (10 : UInt8) ∉ x := by
  intro x hx
  obtain ⟨y, hy, rfl⟩ := List.mem_map.1 hx
  unfold D_told at h
  exact L_lineNo (h.1.2 y hy)

theorem L_readLines (s : ByteArray) (l : List S65) (hl : D_told l) (e : s.data.toList = D_T l) : D_readLines s = (l.map D_lineL ++ [[]]).map D_mk := by
  have hsz := Lib.size_eq s
  have hl2 : (l.length : Int) ≤ 60 := by unfold D_told at hl; exact hl.2
  have hlen := L_linedLen 10 (l.map D_lineL)
  rw [List.length_map] at hlen
  unfold D_readLines
  refine L_mapMk _ _ ?_
  rw [Lib.splitB_data, e, show (⟨#[10]⟩ : ByteArray).data.toList = [10] from rfl]
  unfold D_T at e ⊢
  rw [e] at hsz
  exact L_splitK 10 _ _ (L_linedNo hl) (by rw [List.length_map]; omega)

theorem L_mkData (x : List UInt8) : (D_mk x).data.toList = x := rfl

theorem L_index0 (b : UInt8) : ∀ (x : List UInt8), b ∉ x → Lib.index x [b] = -1
  | [], _ => by simp [Lib.index]
  | c :: x, h => by
    have hc : ¬ b = c := fun e => h (by rw [e]; simp)
    have ih := L_index0 b x (fun e => h (List.mem_cons_of_mem _ e))
    rw [Lib.index, if_neg (by simp [List.isPrefixOf, hc]), ih, if_pos (by simp)]

theorem L_cut0 (b : UInt8) (x : List UInt8) (h : b ∉ x) : Lib.cut x [b] = (x, [], false) := by
  unfold Lib.cut
  rw [L_index0 b x h, if_neg (by omega)]

theorem L_readEmpty : D_readLine (D_mk []) = none := by
  unfold D_readLine
  rw [L_mkData, L_cut0 32 [] (by simp)]
  rfl

theorem L_cut1 (b : UInt8) (x r : List UInt8) (h : b ∉ x) : Lib.cut (x ++ b :: r) [b] = (x, r, true) := by
  unfold Lib.cut
  rw [L_index1 b x r h, if_pos (by omega)]
  have e1 : (x ++ b :: r).take ((x.length : Int).toNat) = x := by simp
  have e2 : (x ++ b :: r).drop ((x.length : Int).toNat + ([b] : List UInt8).length) = r := by
    rw [Int.toNat_natCast, List.drop_append, List.drop_eq_nil_of_le (by simp)]
    simp
  rw [e1, e2]

theorem L_decNe (n : Nat) : Lib.decDigits n ≠ [] := by
  rw [Lib.decDigits]
  split <;> simp

theorem L_parseUSnoc (M : Nat) : ∀ (l : List UInt8) (c : UInt8) (a m : Nat), Lib.parseUintM M a l = .ok m → 48 ≤ c.toNat → c.toNat ≤ 57 → m < 1844674407370955162 → m * 10 + (c.toNat - 48) ≤ M → Lib.parseUintM M a (l ++ [c]) = .ok (m * 10 + (c.toNat - 48))
  | [], c, a, m, h, h1, h2, h3, h4 => by
    simp only [Lib.parseUintM] at h
    injection h with h
    subst h
    simp only [List.nil_append, Lib.parseUintM]
    rw [if_pos ⟨h1, h2⟩, if_neg (by omega), if_neg (by omega)]
  | x :: l, c, a, m, h, h1, h2, h3, h4 => by
    rw [List.cons_append]
    simp only [Lib.parseUintM] at h ⊢
    split at h
    · rename_i hx
      rw [if_pos hx]
      split at h
      · cases h
      · rename_i h5
        rw [if_neg h5]
        split at h
        · cases h
        · rename_i h6
          rw [if_neg h6]
          exact L_parseUSnoc M l c _ m h h1 h2 h3 h4
    · cases h

theorem L_parseUDec (M n : Nat) (h : n ≤ M) (h2 : n < 18446744073709551616) : Lib.parseUintM M 0 (Lib.decDigits n) = .ok n := by
  induction n using Nat.strongRecOn with
  | _ n ih =>
    rw [Lib.decDigits]
    split
    · rename_i hn
      have e : (UInt8.ofNat (48 + n)).toNat = 48 + n := by rw [UInt8.toNat_ofNat']; omega
      simp only [Lib.parseUintM, e]
      rw [if_pos (by omega), if_neg (by omega), if_neg (by omega)]
      congr 1; omega
    · rename_i hn
      have e : (UInt8.ofNat (48 + n % 10)).toNat = 48 + n % 10 := by rw [UInt8.toNat_ofNat']; omega
      rw [L_parseUSnoc M _ _ 0 (n / 10) (ih (n / 10) (by omega) (by omega) (by omega)) (by omega) (by omega) (by omega) (by omega), e]
      congr 1; omega

/-- the number that digits say, behind a -/
def D_num : List UInt8 → Nat → Option Nat
  | [], a => some a
  | c :: r, a => if 48 ≤ c.toNat ∧ c.toNat ≤ 57 then D_num r (10 * a + (c.toNat - 48)) else none

theorem L_numSnoc : ∀ (l : List UInt8) (c : UInt8) (a m : Nat), D_num l a = some m → 48 ≤ c.toNat → c.toNat ≤ 57 → D_num (l ++ [c]) a = some (10 * m + (c.toNat - 48))
  | [], c, a, m, h, h1, h2 => by
    cases h
    simp only [List.nil_append, D_num]
    rw [if_pos ⟨h1, h2⟩]
  | x :: l, c, a, m, h, h1, h2 => by
    rw [D_num] at h
    split at h
    · rename_i hx
      rw [List.cons_append, D_num, if_pos hx]
      exact L_numSnoc l c _ m h h1 h2
    · cases h

theorem L_numDec (n : Nat) : D_num (Lib.decDigits n) 0 = some n := by
  induction n using Nat.strongRecOn with
  | _ n ih =>
    rw [Lib.decDigits]
    split
    · rename_i h
      have e : (UInt8.ofNat (48 + n)).toNat = 48 + n := by rw [UInt8.toNat_ofNat']; omega
      simp only [D_num, e]
      rw [if_pos (by omega)]
      congr 1; omega
    · rename_i h
      have e : (UInt8.ofNat (48 + n % 10)).toNat = 48 + n % 10 := by rw [UInt8.toNat_ofNat']; omega
      rw [L_numSnoc _ _ 0 (n / 10) (ih (n / 10) (by omega)) (by omega) (by omega), e]
      congr 1; omega

theorem L_decHead (n : Nat) : ∃ c r, Lib.decDigits n = c :: r ∧ ¬ (c.toNat = 48 ∧ r ≠ []) := by
  induction n using Nat.strongRecOn with
  | _ n ih =>
    rw [Lib.decDigits]
    split
    · exact ⟨_, [], rfl, fun h => h.2 rfl⟩
    · rename_i h
      obtain ⟨c, r, e, hz⟩ := ih (n / 10) (by omega)
      refine ⟨c, r ++ [UInt8.ofNat (48 + n % 10)], by rw [e]; rfl, fun hh => ?_⟩
      have hr : r = [] := Classical.byContradiction fun e2 => hz ⟨hh.1, e2⟩
      subst hr
      have h1 := L_numDec (n / 10)
      rw [e, D_num, hh.1] at h1
      simp only [D_num] at h1
      injection h1 with h1
      omega

theorem L_parseDec (B n : Nat) (hB : n < 2 ^ (B - 1)) (hM : 2 ^ (B - 1) ≤ 2 ^ B - 1) (h2 : n < 18446744073709551616) : Lib.parseIntB B (Lib.decDigits n) = .ok (n : Int) := by
  have hu : Lib.parseUintB B (Lib.decDigits n) = .ok n := by
    unfold Lib.parseUintB
    rw [if_neg (L_decNe n)]
    exact L_parseUDec _ n (by omega) h2
  obtain ⟨c, r, e, _⟩ := L_decHead n
  have hc := L_decDig n c (by rw [e]; simp)
  rw [e] at hu ⊢
  rw [Lib.parseIntB_plain B c r (by omega) (by omega), hu]
  simp only [Lib.signlessC]
  rw [if_neg (by omega)]

theorem L_readLine {x : S65} (h : 0 ≤ x.f0 ∧ x.f0 ≤ 2) (hN : 0 ≤ x.f1 ∧ x.f1 ≤ 100000) : D_readLine (D_mk (D_lineL x)) = some x := by
  have hw := L_wordKind h
  have hc : Lib.cut (D_lineL x) [32] = (D_wordL x.f0, Lib.decDigits x.f1.toNat, true) := L_cut1 32 _ _ hw.2.1
  have hp := L_parseDec 64 x.f1.toNat (by have : (2 : Nat) ^ (64 - 1) = 9223372036854775808 := by decide
                                          omega) (by decide) (by omega)
  have hi : IntKind.i8.wrap (Lib.idxOfS readWords ⟨(D_wordL x.f0).toArray⟩) = x.f0 := by
    obtain ⟨a, b⟩ := x
    dsimp only at h ⊢
    obtain rfl | rfl | rfl : a = 0 ∨ a = 1 ∨ a = 2 := by omega
    · decide +kernel
    · decide +kernel
    · decide +kernel
  unfold D_readLine
  rw [L_mkData, hc]
  simp only [hp, hi]
  rw [show ((x.f1.toNat : Nat) : Int) = x.f1 by omega]

theorem L_readOut : ∀ (l o : List S65), (∀ x ∈ l, (0 ≤ x.f0 ∧ x.f0 ≤ 2) ∧ 0 ≤ x.f1 ∧ x.f1 ≤ 100000) → D_readOut ((l.map D_lineL ++ [[]]).map D_mk) o = o ++ l
  | [], o, _ => by simp [D_readOut, L_readEmpty]
  | x :: l, o, h => by
    have h1 := h x (by simp)
    rw [List.map_cons, List.cons_append, List.map_cons, D_readOut, L_readLine h1.1 h1.2]
    simp only
    rw [L_readOut l (o ++ [x]) (fun y hy => h y (List.mem_cons_of_mem _ hy))]
    simp

theorem L_readOutB : ∀ (L : List ByteArray) (o : List S65), D_actB o → D_actB (D_readOut L o)
  | [], o, h => h
  | s :: L, o, h => by
    rw [D_readOut]
    refine L_readOutB L _ ?_
    cases hq : D_readLine s with
    | none => exact h
    | some x =>
      intro y hy
      rcases List.mem_append.1 hy with hy | hy
      · exact h y hy
      · rw [List.mem_singleton] at hy
        subst hy
        unfold D_readLine at hq
        split at hq
        · cases hq
          simp only [IntKind.wrap, IntKind.bits, IntKind.signed]
          simp
          omega
        · cases hq

theorem L_mk (a b : List UInt8) : (⟨a.toArray⟩ : ByteArray) ++ (⟨b.toArray⟩ : ByteArray) = ⟨(a ++ b).toArray⟩ := by
  apply ByteArray.ext
  simp [ByteArray.data_append]

theorem L_actsLined : ∀ (l : List S65) (a : List UInt8), D_actsText l (D_mk a) = D_mk (a ++ D_lined 10 (l.map D_lineL))
  | [], a => by simp [D_actsText, D_lined]
  | x :: l, a => by
    have e : (D_mk a) ++ (((D_word x.f0 ++ (⟨#[32]⟩ : ByteArray)) ++ (⟨(Lib.decDigits x.f1.toNat).toArray⟩ : ByteArray)) ++ (⟨#[10]⟩ : ByteArray)) = D_mk (a ++ (D_lineL x ++ [10])) := by
      unfold D_lineL
      rw [← L_mkList (D_word x.f0), show (⟨#[32]⟩ : ByteArray) = ⟨([32] : List UInt8).toArray⟩ from rfl, show (⟨#[10]⟩ : ByteArray) = ⟨([10] : List UInt8).toArray⟩ from rfl]
      unfold D_mk
      rw [L_mk, L_mk, L_mk, L_mk]
      simp
    rw [D_actsText, e, L_actsLined l]
    congr 1
    simp [D_lined]

theorem L_actsT (l : List S65) : D_actsText l ⟨#[]⟩ = D_mk (D_T l) := L_actsLined l []

theorem L_mkToList (x : List UInt8) : (D_mk x).toList = x := by rw [Lib.toList_data]; rfl

theorem L_implRead (s : ByteArray) (hs : s.size ≤ 1048576) : impl_ReadActs.f s = some (if D_told (D_readOut (D_readLines s) []) ∧ s.data.toList = D_T (D_readOut (D_readLines s) []) then (D_readOut (D_readLines s) [], 0) else ([], 5)) := by
  have hB : D_actB (D_readOut (D_readLines s) []) := L_readOutB _ [] (fun x hx => by simp at hx)
  unfold impl_ReadActs.f
  rw [if_pos hs, L_implTold _ hB]
  generalize D_readOut (D_readLines s) [] = o at hB ⊢
  simp only [Option.bind_some, decide_eq_true_eq]
  by_cases h : D_told o
  · have h' := h
    unfold D_told at h'
    rw [if_pos h]
    unfold impl_actsText.f
    rw [L_implTextLoop o h'.1.1 h'.1.2 h'.2 o.length _ _ 0 (by omega) (by omega) (by omega) (by decide)]
    simp only [Option.bind_some, Int.toNat_zero, List.drop_zero]
    rw [L_actsT, L_mkToList, Lib.toList_data]
    by_cases h2 : s.data.toList = D_T o
    · rw [if_pos h2.symm, if_pos ⟨h, h2⟩]
    · rw [if_neg (fun e => h2 e.symm), if_neg (fun e => h2 e.2)]
  · rw [if_neg h, if_neg (fun e => h e.1)]

theorem L_implOf (s : ByteArray) (hs : s.size ≤ 1048576) (l : List S65) (hl : D_told l) (e : s.data.toList = D_T l) : impl_ReadActs.f s = some (l, 0) := by
  have h1 : D_readOut (D_readLines s) [] = l := by
    rw [L_readLines s l hl e, L_readOut l [] (fun x hx => by unfold D_told at hl; exact ⟨hl.1.2 x hx, hl.1.1 x hx⟩)]
    rfl
  rw [L_implRead s hs, h1, if_pos ⟨hl, e⟩]

theorem L_mkSz (x : List UInt8) : (D_mk x).size = x.length := by simp [D_mk, ByteArray.size]

theorem L_linedLeA : ∀ (L : List (List UInt8)) (m : Nat), (∀ x ∈ L, x.length ≤ m) → (D_lined 10 L).length ≤ L.length * (m + 1)
  | [], m, _ => by simp [D_lined]
  | x :: r, m, h => by
    have h1 := h x List.mem_cons_self
    have h2 := L_linedLeA r m (fun y hy => h y (List.mem_cons_of_mem _ hy))
    rw [List.length_cons, Nat.succ_mul]
    have e : (D_lined 10 (x :: r)).length = x.length + 1 + (D_lined 10 r).length := by simp [D_lined]; omega
    omega

theorem L_mkSize (a : List UInt8) : (⟨a.toArray⟩ : ByteArray).size = a.length := by simp [ByteArray.size]

theorem L_decShort {n : Int} (h0 : 0 ≤ n) (h : n ≤ 100000) : (Lib.decDigits n.toNat).length ≤ 7 := by
  have := L_decSz (n := n) h0 (by omega)
  rw [L_mkSize] at this
  exact this

theorem L_actLineLen {x : S65} (h : 0 ≤ x.f0 ∧ x.f0 ≤ 2) (hN : 0 ≤ x.f1 ∧ x.f1 ≤ 100000) : (D_lineL x).length ≤ 17 := by
  have h1 := L_decShort hN.1 hN.2
  have h2 : (D_word x.f0).data.toList.length ≤ 9 := by
    rcases (show x.f0 = 0 ∨ x.f0 = 1 ∨ x.f0 = 2 by omega) with e | e | e <;> rw [e] <;> decide
  unfold D_lineL
  simp only [List.length_append, List.length_cons]
  omega

theorem L_actsRead (l : List S65) (h8 : D_actB l) (hl : D_told l) {k : Nat} (hk : 2 * l.length + 100 < k) : ∃ T, impl_ActsText.f k l = some T ∧ impl_ReadActs.f T = some (l, 0) := by
  refine ⟨_, L_actsImpl l h8 hk hl, ?_⟩
  have hl' := hl
  unfold D_told at hl'
  refine L_implOf _ ?_ l hl ?_
  · rw [L_actsT, L_mkSz]
    have := L_linedLeA (l.map D_lineL) 17 (fun x hx => by
      obtain ⟨y, hy, rfl⟩ := List.mem_map.1 hx
      exact L_actLineLen (hl'.1.2 y hy) (hl'.1.1 y hy))
    rw [List.length_map] at this
    unfold D_T
    omega
  · rw [L_actsT, L_mkData]

theorem L_rdByte {l : List Int} (hl : ∀ x ∈ l, 0 ≤ x ∧ x ≤ 255) (i : Int) : 0 ≤ rd l i ∧ rd l i ≤ 255 := by
  unfold rd
  by_cases h : i.toNat < l.length
  · have := hl _ (List.getElem_mem h)
    simpa [List.getD, List.getElem?_eq_getElem h] using this
  · simp [List.getD, List.getElem?_eq_none (Nat.le_of_not_lt h)]

theorem L_and255 (x : Int) : 0 ≤ Go.bits .and .u64 (IntKind.u64.wrap x / 1099511627776) 255 ∧ Go.bits .and .u64 (IntKind.u64.wrap x / 1099511627776) 255 ≤ 255 := by
  rw [IntKind.wrap_u64]
  obtain ⟨n, hn⟩ : ∃ n : Nat, x % 18446744073709551616 / 1099511627776 = n := ⟨(x % 18446744073709551616 / 1099511627776).toNat, by omega⟩
  have h2 : n < 2 ^ 64 := by omega
  rw [hn, show (255 : Int) = ((255 : Nat) : Int) from rfl, bits_and_u64_nat n 255 (by omega) (by omega)]
  have := Nat.and_le_right (n := n) (m := 255)
  omega

theorem L_next {l : List Int} (hl : ∀ x ∈ l, 0 ≤ x ∧ x ≤ 255) {a : Int} (ha : 0 ≤ a ∧ a ≤ 4611686018427387904) (z : Int) :
    ∃ x y, spec_l00Src_next.f l a z = some (x, a + 1, y) ∧ 0 ≤ x ∧ x ≤ 255 := by
  unfold spec_l00Src_next.f
  have hb := L_rdByte hl a
  rw [L_w (x := a + 1) (by omega), L_w (x := rd l a) (by omega)]
  split
  · rw [if_pos ha.1]
    split
    · exact ⟨_, _, rfl, hb.1, hb.2⟩
    · have := L_and255 ((IntKind.u64.wrap ((IntKind.u64.wrap (z * 6364136223846793005)) + (IntKind.u64.wrap (rd l a)))) + 1442695040888963407)
      rw [L_w (by omega)]
      exact ⟨_, _, rfl, this.1, this.2⟩
  · split
    · exact ⟨_, _, rfl, by omega, by omega⟩
    · have := L_and255 ((IntKind.u64.wrap ((IntKind.u64.wrap (z * 6364136223846793005)))) + 1442695040888963407)
      rw [L_w (by omega)]
      exact ⟨_, _, rfl, this.1, this.2⟩

theorem L_pick {l : List Int} (hl : ∀ x ∈ l, 0 ≤ x ∧ x ≤ 255) {a : Int} (ha : 0 ≤ a ∧ a ≤ 4611686018427387000) (z n : Int) :
    ∃ x b y, spec_l00Src_pick.f l a z n = some (x, b, y) ∧ 0 ≤ x ∧ (x < n ∨ n ≤ 1 ∧ x = 0) ∧ a ≤ b ∧ b ≤ a + 2 := by
  unfold spec_l00Src_pick.f
  split
  · exact ⟨_, _, _, rfl, by omega, by omega, by omega, by omega⟩
  · rename_i hn
    obtain ⟨x, y, e, h1, h2⟩ := L_next hl (a := a) (by omega) z
    rw [e]
    simp only [Option.bind_some]
    split
    · obtain ⟨x', y', e', h1', h2'⟩ := L_next hl (a := a + 1) (by omega) y
      rw [e']
      simp only [Option.bind_some]
      rw [if_neg (by omega), L_w (x := x * 256) (by omega), L_w (x := x * 256 + x') (by omega), Int.tmod_eq_emod_of_nonneg (by omega)]
      exact ⟨_, _, _, rfl, Int.emod_nonneg _ (by omega), Or.inl (Int.emod_lt_of_pos _ (by omega)), by omega, by omega⟩
    · rw [if_neg (by omega), Int.tmod_eq_emod_of_nonneg h1]
      exact ⟨_, _, _, rfl, Int.emod_nonneg _ (by omega), Or.inl (Int.emod_lt_of_pos _ (by omega)), by omega, by omega⟩

theorem L_w8 {x : Int} (h : -128 ≤ x ∧ x ≤ 127) : IntKind.i8.wrap x = x := by simp [IntKind.wrap, IntKind.bits, IntKind.signed]; omega

theorem L_a2ActsRun {l : List Int} (hl : ∀ x ∈ l, 0 ≤ x ∧ x ≤ 255) (e : Nat) : ∀ (k : Nat) (o : List S65) (a z : Int), e < k → 0 ≤ a → a + 4 * e ≤ 4611686018427386000 → o.length + e ≤ 1000 → (∀ x ∈ o, (0 ≤ x.f0 ∧ x.f0 ≤ 2) ∧ 0 ≤ x.f1 ∧ x.f1 ≤ 59) →
    ∃ A, spec_A2Acts.l0 k o (e : Int) l a z = some A ∧ A.length = o.length + e ∧ ∀ x ∈ A, (0 ≤ x.f0 ∧ x.f0 ≤ 2) ∧ 0 ≤ x.f1 ∧ x.f1 ≤ 59 := by
  induction e with
  | zero =>
    intro k o a z hk h0 h1 h2 h3
    obtain ⟨k, rfl⟩ : ∃ q, k = q + 1 := ⟨k - 1, by omega⟩
    simp only [spec_A2Acts.l0]
    rw [if_neg (by omega)]
    exact ⟨o, rfl, by omega, h3⟩
  | succ e ih =>
    intro k o a z hk h0 h1 h2 h3
    obtain ⟨k, rfl⟩ : ∃ q, k = q + 1 := ⟨k - 1, by omega⟩
    simp only [spec_A2Acts.l0]
    obtain ⟨x, b, y, e1, x0, x1, b0, b1⟩ := L_pick hl (a := a) (by omega) z 3
    rw [if_pos (by omega), e1]
    simp only [Option.bind_some]
    obtain ⟨x', b', y', e2, x0', x1', b0', b1'⟩ := L_pick hl (a := b) (by omega) y 60
    rw [e2]
    simp only [Option.bind_some]
    rw [if_pos (by omega), L_w8 (x := x) (by omega), show ((e + 1 : Nat) : Int) - 1 = (e : Int) by omega, L_w (x := (e : Int)) (by omega)]
    obtain ⟨A, hA, hA1, hA2⟩ := ih k (o ++ [⟨x, x'⟩]) b' y' (by omega) (by omega) (by omega) (by simp; omega) (fun q hq => by
      rcases List.mem_append.1 hq with h | h
      · exact h3 q h
      · obtain rfl := List.mem_singleton.1 h; exact ⟨⟨x0, by show x ≤ 2; omega⟩, x0', by show x' ≤ 59; omega⟩)
    exact ⟨A, hA, by simp at hA1; omega, hA2⟩

theorem L_a2ActsDrawn {l : List Int} (hl : ∀ x ∈ l, 0 ≤ x ∧ x ≤ 255) {n : Nat} (hn : 10 ≤ n) : ∃ A, spec_A2Acts.f n l = some A ∧ A.length ≤ 5 ∧ ∀ x ∈ A, (0 ≤ x.f0 ∧ x.f0 ≤ 2) ∧ 0 ≤ x.f1 ∧ x.f1 ≤ 59 := by
  unfold spec_A2Acts.f spec_l00From.f
  simp only [Option.bind_some]
  obtain ⟨x, b, y, e1, x0, x1, b0, b1⟩ := L_pick hl (a := 0) (by omega) 0 6
  rw [e1]
  simp only [Option.bind_some]
  obtain ⟨A, hA, hA1, hA2⟩ := L_a2ActsRun hl x.toNat n [] b y (by omega) (by omega) (by omega) (by simp; omega) (by simp)
  rw [show ((x.toNat : Nat) : Int) = x by omega] at hA
  exact ⟨A, hA, by simp at hA1; omega, hA2⟩

theorem L_a2SameActsRun (R : List S65) (hR : R.length ≤ 1000000) (e : Nat) : ∀ (k : Nat) (i : Int), 0 ≤ i → i + e = R.length → e < k → spec_A2SameActs.l0 k R R i = some true := by
  induction e with
  | zero =>
    intro k i h0 h1 hk
    obtain ⟨k, rfl⟩ : ∃ q, k = q + 1 := ⟨k - 1, by omega⟩
    simp only [spec_A2SameActs.l0]
    rw [if_neg (by omega)]
  | succ e ih =>
    intro k i h0 h1 hk
    obtain ⟨k, rfl⟩ : ∃ q, k = q + 1 := ⟨k - 1, by omega⟩
    simp only [spec_A2SameActs.l0]
    rw [if_pos (by omega), if_pos h0, if_pos (by omega), if_neg (by simp), L_w (x := i + 1) (by omega)]
    exact ih k (i + 1) (by omega) (by omega) (by omega)

theorem L_a2SameActs (R : List S65) (hR : R.length ≤ 1000000) {n : Nat} (hn : R.length < n) : spec_A2SameActs.f n R R = some true := by
  unfold spec_A2SameActs.f
  rw [if_pos rfl]
  exact L_a2SameActsRun R hR R.length n 0 (by omega) (by omega) (by omega)

theorem L_a2SameRun (R : List Int) (hR : R.length ≤ 1000000) (e : Nat) : ∀ (k : Nat) (i : Int), 0 ≤ i → i + e = R.length → e < k → spec_A2Same.l0 k R R i = some true := by
  induction e with
  | zero =>
    intro k i h0 h1 hk
    obtain ⟨k, rfl⟩ : ∃ q, k = q + 1 := ⟨k - 1, by omega⟩
    simp only [spec_A2Same.l0]
    rw [if_neg (by omega)]
  | succ e ih =>
    intro k i h0 h1 hk
    obtain ⟨k, rfl⟩ : ∃ q, k = q + 1 := ⟨k - 1, by omega⟩
    simp only [spec_A2Same.l0]
    rw [if_pos (by omega), if_pos h0, if_pos (by omega), if_pos trivial, L_w (x := i + 1) (by omega)]
    exact ih k (i + 1) (by omega) (by omega) (by omega)

theorem L_a2Same (R : List Int) (hR : R.length ≤ 1000000) {n : Nat} (hn : R.length < n) : spec_A2Same.f n R R = some true := by
  unfold spec_A2Same.f
  rw [if_pos rfl]
  exact L_a2SameRun R hR R.length n 0 (by omega) (by omega) (by omega)

def D_dev (a b c d : Int) : Prop := 100 ≤ a ∧ a ≤ 100000 ∧ 1 ≤ b ∧ b ≤ 100000 ∧ 10 ≤ c ∧ c ≤ 40 ∧ 1 ≤ d ∧ d ≤ 10
instance (a b c d : Int) : Decidable (D_dev a b c d) := by unfold D_dev; infer_instance

def D_vol (p v u g : Int) : Prop := 1 ≤ v ∧ v ≤ 20000 ∧ 0 ≤ u ∧ u ≤ 100000000 ∧ 0 ≤ g ∧ g ≤ 100000 ∧ 1000 * u ≤ v * p
instance (p v u g : Int) : Decidable (D_vol p v u g) := by unfold D_vol; infer_instance

def D_slowFrom (s : Int) : Nat → Int → Int
  | 0, i => i
  | d + 1, i => if tmv i * s < 1000000 then D_slowFrom s d (i + 1) else i

def D_slow (s : Int) : Int := D_slowFrom s 37 0

def D_strength (per keeps vol used age : Int) : Int := if age ≥ keeps then 0 else 1000 * (vol * per - 1000 * used) / (vol * per) * (keeps - age) / keeps

def D_sheet (p k c d v u g a : Int) : Int × Int × Int × Int :=
  if D_dev p k c d ∧ D_vol p v u g then (if 1 ≤ a ∧ a ≤ 5000 then (if D_slow (D_strength p k v u g) ≤ 36 ∧ D_vol p v (u + a) g then (v, u + a, g, 0) else (0, 0, 0, 4)) else (0, 0, 0, 2)) else (0, 0, 0, 1)

def D_fill (v u g m : Int) : Int × Int × Int := (v, u * (v - m) / v, g * (v - m) / v)

def D_do1 (p k c d v u g : Int) (x : S65) : Int × Int × Int × Int :=
  if x.f0 = 0 then D_sheet p k c d v u g x.f1 else (if x.f0 = 1 then
    (if D_dev p k c d ∧ D_vol p v u g then (if 0 ≤ x.f1 ∧ x.f1 ≤ 100000 then (if D_vol p v u (g + x.f1) then (v, u, g + x.f1, 0) else (0, 0, 0, 4)) else (0, 0, 0, 2)) else (0, 0, 0, 1))
    else (if D_dev p k c d ∧ D_vol p v u g then (if 0 ≤ x.f1 ∧ x.f1 ≤ v then ((D_fill v u g x.f1).1, (D_fill v u g x.f1).2.1, (D_fill v u g x.f1).2.2, 0) else (0, 0, 0, 2)) else (0, 0, 0, 1)))

def D_run (p k c d : Int) : List S65 → Int → Int → Int → List S47 × Int
  | [], _, _, _ => ([], 0)
  | x :: r, v, u, g => if (D_do1 p k c d v u g x).2.2.2 = 0 then
      ((⟨(D_do1 p k c d v u g x).1, (D_do1 p k c d v u g x).2.1, (D_do1 p k c d v u g x).2.2.1⟩ : S47) :: (D_run p k c d r (D_do1 p k c d v u g x).1 (D_do1 p k c d v u g x).2.1 (D_do1 p k c d v u g x).2.2.1).1,
        (D_run p k c d r (D_do1 p k c d v u g x).1 (D_do1 p k c d v u g x).2.1 (D_do1 p k c d v u g x).2.2.1).2)
    else ([], (D_do1 p k c d v u g x).2.2.2)

def D_lastB (v u g : Int) (l : List S47) : S47 := l.getLastD ⟨v, u, g⟩

def D_listed (p k c d v u g : Int) (l : List S65) : Int := if D_dev p k c d ∧ D_vol p v u g then (if (l.length : Int) > 60 then 3 else (if D_kinds l then 0 else 2)) else 1

theorem L_mulb {x y X Y : Int} (h : 0 ≤ x) (hx : x ≤ X) (k : 0 ≤ y) (ky : y ≤ Y) : 0 ≤ x * y ∧ x * y ≤ X * Y :=
  ⟨Int.mul_nonneg h k, Int.mul_le_mul hx ky k (Int.le_trans h hx)⟩

theorem L_quot {a b q : Int} (ha : 0 ≤ a) (hb : 0 < b) (h : a ≤ q * b) : 0 ≤ a / b ∧ a / b ≤ q := by
  refine ⟨Int.ediv_nonneg ha (by omega), ?_⟩
  have := Int.ediv_le_ediv hb h
  rwa [Int.mul_ediv_cancel _ (by omega)] at this

theorem L_fillb {x v m X : Int} (hx : 0 ≤ x ∧ x ≤ X) (hv : 1 ≤ v ∧ v ≤ 20000) (hm : 0 ≤ m ∧ m ≤ v) : (0 ≤ x * (v - m) ∧ x * (v - m) ≤ X * 20000) ∧ 0 ≤ x * (v - m) / v ∧ x * (v - m) / v ≤ x := by
  have h1 := L_mulb (x := x) (y := v - m) (X := X) (Y := 20000) hx.1 hx.2 (by omega) (by omega)
  have h2 := L_mulb (x := x) (y := v - m) (X := x) (Y := v) hx.1 (by omega) (by omega) (by omega)
  exact ⟨h1, L_quot h1.1 (by omega) h2.2⟩

theorem L_fillVol {p v u g m : Int} (h : D_vol p v u g) (hm : 0 ≤ m ∧ m ≤ v) : D_vol p (D_fill v u g m).1 (D_fill v u g m).2.1 (D_fill v u g m).2.2 := by
  unfold D_vol at h ⊢
  have h1 := L_fillb (x := u) (v := v) (m := m) (X := 100000000) (by omega) (by omega) hm
  have h2 := L_fillb (x := g) (v := v) (m := m) (X := 100000) (by omega) (by omega) hm
  unfold D_fill
  dsimp only
  omega

theorem L_do1Vol {p k c d v u g : Int} (x : S65) (hV : D_vol p v u g) (h : (D_do1 p k c d v u g x).2.2.2 = 0) : D_vol p (D_do1 p k c d v u g x).1 (D_do1 p k c d v u g x).2.1 (D_do1 p k c d v u g x).2.2.1 := by
  unfold D_do1 at *
  by_cases h0 : x.f0 = 0
  · simp only [if_pos h0] at *
    unfold D_sheet at *
    split at h
    · rename_i h1
      simp only [if_pos h1]
      split at h
      · rename_i h2
        simp only [if_pos h2]
        split at h
        · rename_i h3
          simp only [if_pos h3]
          exact h3.2
        · simp at h
      · simp at h
    · simp at h
  · simp only [if_neg h0] at *
    by_cases h1 : x.f0 = 1
    · simp only [if_pos h1] at *
      split at h
      · rename_i h1
        simp only [if_pos h1]
        split at h
        · rename_i h2
          simp only [if_pos h2]
          split at h
          · rename_i h3
            simp only [if_pos h3]
            exact h3
          · simp at h
        · simp at h
      · simp at h
    · simp only [if_neg h1] at *
      split at h
      · rename_i h1
        simp only [if_pos h1]
        split at h
        · rename_i h2
          simp only [if_pos h2]
          exact L_fillVol hV h2
        · simp at h
      · simp at h

theorem L_runFacts (p k c d : Int) : ∀ (l : List S65) (v u g : Int), D_vol p v u g → (D_run p k c d l v u g).1.length ≤ l.length ∧ (∀ b ∈ (D_run p k c d l v u g).1, D_vol p b.f0 b.f1 b.f2)
  | [], v, u, g, _ => by simp [D_run]
  | x :: r, v, u, g, hV => by
    unfold D_run
    by_cases h : (D_do1 p k c d v u g x).2.2.2 = 0
    · rw [if_pos h]
      have h1 := L_do1Vol x hV h
      obtain ⟨a, b⟩ := L_runFacts p k c d r _ _ _ h1
      refine ⟨by simpa using a, fun y hy => ?_⟩
      rcases List.mem_cons.1 hy with rfl | hy
      · exact h1
      · exact b y hy
    · rw [if_neg h]; simp

theorem L_in (a b c : Int) : spec_l00In.f a b c = some (decide (b ≤ a ∧ a ≤ c)) := by
  unfold spec_l00In.f
  split
  · exact L_sd (by omega)
  · exact L_sf (by omega)

theorem L_specDev {a b c d : Int} (hc : -128 ≤ c ∧ c ≤ 127) (hd : -128 ≤ d ∧ d ≤ 127) : spec_l04Developer.f a b c d = some (decide (D_dev a b c d)) := by
  unfold spec_l04Developer.f
  rw [L_w (x := c) (by omega), L_w (x := d) (by omega)]
  simp only [L_in, Option.bind_some, decide_eq_true_eq]
  unfold D_dev
  repeat' split
  all_goals first | exact L_sd (by omega) | exact L_sf (by omega)

theorem L_specOk {a b c d v u g : Int} (hc : -128 ≤ c ∧ c ≤ 127) (hd : -128 ≤ d ∧ d ≤ 127) : spec_l04Ok.f a b c d v u g = some (decide (D_dev a b c d ∧ D_vol a v u g)) := by
  unfold spec_l04Ok.f
  rw [L_specDev hc hd]
  simp only [L_in, Option.bind_some, decide_eq_true_eq]
  by_cases hD : D_dev a b c d
  · have hDD := hD
    unfold D_dev at hDD
    rw [if_pos hD]
    by_cases h1 : 1 ≤ v ∧ v ≤ 20000
    · by_cases h2 : 0 ≤ u ∧ u ≤ 100000000
      · by_cases h3 : 0 ≤ g ∧ g ≤ 100000
        · rw [if_pos h1, if_pos h2, if_pos h3]
          have := L_mulb (x := v) (y := a) (X := 20000) (Y := 100000) (by omega) (by omega) (by omega) (by omega)
          rw [L_w (x := 1000 * u) (by omega), L_w (x := v * a) (by omega)]
          refine L_sd ?_
          unfold D_vol
          constructor
          · intro h; exact ⟨hD, by omega⟩
          · intro h; omega
        · rw [if_pos h1, if_pos h2, if_neg h3]; refine L_sf ?_; unfold D_vol; omega
      · rw [if_pos h1, if_neg h2]; refine L_sf ?_; unfold D_vol; omega
    · rw [if_neg h1]; refine L_sf ?_; unfold D_vol; omega
  · rw [if_neg hD]; exact L_sf (fun h => hD h.1)

theorem L_kindsLoop (l : List S65) (h8 : D_actB l) (hn : l.length ≤ 140737488351232) (d : Nat) : ∀ (k : Nat) (i : Int), 0 ≤ i → i + d = l.length → d < k →
    spec_l04Kinds.l0 k l i = some (decide (∀ x ∈ l.drop i.toNat, 0 ≤ x.f0 ∧ x.f0 ≤ 2)) := by
  induction d with
  | zero =>
    intro k i h0 hd hk
    obtain ⟨k, rfl⟩ : ∃ m, k = m + 1 := ⟨k - 1, by omega⟩
    simp only [spec_l04Kinds.l0]
    rw [if_neg (by omega), List.drop_eq_nil_of_le (by omega)]
    rfl
  | succ d ih =>
    intro k i h0 hd hk
    obtain ⟨k, rfl⟩ : ∃ m, k = m + 1 := ⟨k - 1, by omega⟩
    obtain ⟨hi, e⟩ := L_rdAS (l := l) (i := i) h0 (by omega)
    have h1 := h8 _ (List.getElem_mem hi)
    rw [← e] at h1
    simp only [spec_l04Kinds.l0]
    rw [if_pos (by omega), if_pos h0, L_w (x := i + 1) (by omega), L_w (x := (rd_T65 l i).f0) (by omega), L_in, List.drop_eq_getElem_cons hi, ← e]
    simp only [Option.bind_some, decide_eq_true_eq]
    split
    · rename_i hx
      rw [ih k (i + 1) (by omega) (by omega) (by omega), show (i + 1).toNat = i.toNat + 1 by omega]
      exact L_sd (by simp [hx])
    · rename_i hx
      exact L_sf (fun h => hx (h _ (by simp)))

theorem L_specListed {p k c d v u g : Int} (hc : -128 ≤ c ∧ c ≤ 127) (hd : -128 ≤ d ∧ d ≤ 127) (l : List S65) (h8 : D_actB l) (hn : l.length ≤ 1048576) {n : Nat} (hk : l.length < n) :
    spec_l04Listed.f n p k c d v u g l = some (D_listed p k c d v u g l) := by
  unfold spec_l04Listed.f D_listed
  rw [L_specOk hc hd]
  simp only [Option.bind_some, decide_eq_true_eq]
  split
  · split
    · rfl
    · unfold spec_l04Kinds.f
      rw [L_kindsLoop l h8 (by omega) l.length n 0 (by omega) (by omega) hk]
      simp only [Option.bind_some, decide_eq_true_eq]
      by_cases h : D_kinds l
      · rw [if_pos h, if_pos (show ∀ x ∈ l.drop (0 : Int).toNat, 0 ≤ x.f0 ∧ x.f0 ≤ 2 from h)]
      · rw [if_neg h, if_neg (show ¬ ∀ x ∈ l.drop (0 : Int).toNat, 0 ≤ x.f0 ∧ x.f0 ≤ 2 from h)]
  · rfl

theorem L_implDev {a b c d : Int} (hc : -128 ≤ c ∧ c ≤ 127) (hd : -128 ≤ d ∧ d ≤ 127) : impl_ValidDeveloper.f a b c d = some (decide (D_dev a b c d)) := by
  unfold impl_ValidDeveloper.f
  rw [L_w (x := c) (by omega), L_w (x := d) (by omega)]
  simp only [L_within, Option.bind_some, decide_eq_true_eq]
  unfold D_dev
  repeat' split
  all_goals first | exact L_sd (by omega) | exact L_sf (by omega)

theorem L_isVolume (v : Int) : impl_isVolume.f v = some (decide (1 ≤ v ∧ v ≤ 20000)) := by
  unfold impl_isVolume.f; rw [L_within]; rfl

theorem L_isBath {a b c d v u g : Int} (hD : D_dev a b c d) : impl_isBath.f a b c d v u g = some (decide (D_vol a v u g)) := by
  unfold impl_isBath.f
  simp only [L_isVolume, L_within, Option.bind_some, decide_eq_true_eq]
  have hDD := hD
  unfold D_dev at hDD
  by_cases h1 : 1 ≤ v ∧ v ≤ 20000
  · by_cases h2 : 0 ≤ u ∧ u ≤ 100000000
    · by_cases h3 : 0 ≤ g ∧ g ≤ 100000
      · rw [if_pos h1, if_pos h2, if_pos h3]
        have := L_mulb (x := v) (y := a) (X := 20000) (Y := 100000) (by omega) (by omega) (by omega) (by omega)
        rw [L_w (x := 1000 * u) (by omega), L_w (x := v * a) (by omega)]
        refine L_sd ?_
        unfold D_vol
        constructor
        · intro h; omega
        · intro h; omega
      · rw [if_pos h1, if_pos h2, if_neg h3]; refine L_sf ?_; unfold D_vol; omega
    · rw [if_pos h1, if_neg h2]; refine L_sf ?_; unfold D_vol; omega
  · rw [if_neg h1]; refine L_sf ?_; unfold D_vol; omega

theorem L_implBath {a b c d v u g : Int} (hc : -128 ≤ c ∧ c ≤ 127) (hd : -128 ≤ d ∧ d ≤ 127) : impl_ValidBath.f a b c d v u g = some (decide (D_dev a b c d ∧ D_vol a v u g)) := by
  unfold impl_ValidBath.f
  rw [L_implDev hc hd]
  simp only [Option.bind_some, decide_eq_true_eq]
  by_cases hD : D_dev a b c d
  · rw [if_pos hD, L_isBath hD]
    exact L_sd (by simp [hD])
  · rw [if_neg hD]; exact L_sf (fun h => hD h.1)

theorem L_implListed {p k c d v u g : Int} (hc : -128 ≤ c ∧ c ≤ 127) (hd : -128 ≤ d ∧ d ≤ 127) (l : List S65) (h8 : D_actB l) :
    impl_actsCode.f p k c d v u g l = some (D_listed p k c d v u g l) := by
  unfold impl_actsCode.f D_listed
  rw [L_implBath hc hd, L_implKinds l h8]
  simp only [Option.bind_some, decide_eq_true_eq]
  split
  · split
    · rfl
    · split <;> rfl
  · rfl

theorem L_strengthParts {p k v u g : Int} {a b c d : Int} (hD : D_dev p k c d) (hV : D_vol p v u g) (hg : g < k) :
    (0 < v * p ∧ v * p ≤ 2000000000) ∧ (0 ≤ 1000 * (v * p - 1000 * u) / (v * p) ∧ 1000 * (v * p - 1000 * u) / (v * p) ≤ 1000) ∧
    (0 ≤ 1000 * (v * p - 1000 * u) / (v * p) * (k - g) ∧ 1000 * (v * p - 1000 * u) / (v * p) * (k - g) ≤ 1000 * k) := by
  unfold D_dev at hD
  unfold D_vol at hV
  have h1 := L_mulb (x := v) (y := p) (X := 20000) (Y := 100000) (by omega) (by omega) (by omega) (by omega)
  have h2 : 0 < v * p := Int.mul_pos (by omega) (by omega)
  have h3 := L_quot (a := 1000 * (v * p - 1000 * u)) (b := v * p) (q := 1000) (by omega) h2 (by omega)
  have h4 := L_mulb (x := 1000 * (v * p - 1000 * u) / (v * p)) (y := k - g) (X := 1000) (Y := k) h3.1 h3.2 (by omega) (by omega)
  exact ⟨⟨h2, by omega⟩, h3, h4⟩

theorem L_strengthRange {p k v u g c d : Int} (hD : D_dev p k c d) (hV : D_vol p v u g) : 0 ≤ D_strength p k v u g ∧ D_strength p k v u g ≤ 1000 := by
  unfold D_strength
  split
  · omega
  · rename_i hg
    have hh := L_strengthParts (a := 0) (b := 0) hD hV (by omega)
    unfold D_dev at hD
    exact L_quot hh.2.2.1 (by omega) hh.2.2.2

theorem L_slowFrom (s : Int) (d : Nat) : ∀ i : Int, 0 ≤ i → i + d = 37 → i ≤ D_slowFrom s d i ∧ D_slowFrom s d i ≤ 37 ∧ (∀ j, i ≤ j → j < D_slowFrom s d i → tmv j * s < 1000000) ∧ (D_slowFrom s d i ≤ 36 → 1000000 ≤ tmv (D_slowFrom s d i) * s) := by
  induction d with
  | zero => intro i h0 hd; unfold D_slowFrom; exact ⟨by omega, by omega, fun j h1 h2 => by omega, fun h => by omega⟩
  | succ d ih =>
    intro i h0 hd
    unfold D_slowFrom
    split
    · rename_i hlt
      obtain ⟨h1, h2, h3, h4⟩ := ih (i + 1) (by omega) (by omega)
      refine ⟨by omega, h2, fun j hj hj2 => ?_, h4⟩
      by_cases e : j = i
      · rw [e]; exact hlt
      · exact h3 j (by omega) hj2
    · rename_i hge
      exact ⟨by omega, by omega, fun j h1 h2 => by omega, fun _ => by omega⟩

theorem L_slowRange (s : Int) : 0 ≤ D_slow s ∧ D_slow s ≤ 37 := by
  have := L_slowFrom s 37 0 (by omega) (by omega)
  exact ⟨this.1, this.2.1⟩

theorem L_specStrength {p k v u g c d : Int} (hD : D_dev p k c d) (hV : D_vol p v u g) : spec_l04Strength.f p k c d v u g = some (D_strength p k v u g) := by
  unfold spec_l04Strength.f D_strength
  by_cases hg : g ≥ k
  · rw [if_pos hg, if_pos hg]
  · rw [if_neg hg, if_neg hg]
    obtain ⟨h1, h2, h3⟩ := L_strengthParts (a := 0) (b := 0) hD hV (by omega)
    unfold D_dev at hD
    unfold D_vol at hV
    have h4 := L_quot h3.1 (show 0 < k by omega) h3.2
    rw [L_w (x := v * p) (by omega), if_neg (by omega), if_neg (by omega), L_w (x := 1000 * u) (by omega), L_w (x := v * p - 1000 * u) (by omega), L_w (x := 1000 * (v * p - 1000 * u)) (by omega),
      Int.tdiv_eq_ediv_of_nonneg (a := 1000 * (v * p - 1000 * u)) (by omega), L_w (x := 1000 * (v * p - 1000 * u) / (v * p)) (by omega), L_w (x := k - g) (by omega),
      L_w (x := 1000 * (v * p - 1000 * u) / (v * p) * (k - g)) (by omega), Int.tdiv_eq_ediv_of_nonneg h3.1, L_w (by omega)]

theorem L_specTimeAll : ∀ n : Nat, n < 37 → spec_l01Time.f n = some (tmv n) := by decide +kernel

theorem L_specTime {k : Int} (h : 0 ≤ k ∧ k ≤ 36) : spec_l01Time.f k = some (tmv k) := by
  obtain ⟨n, rfl⟩ : ∃ n : Nat, k = n := ⟨k.toNat, by omega⟩
  exact L_specTimeAll n (by omega)

theorem L_tmvAll : ∀ n : Nat, n < 37 → 1000 ≤ tmv n ∧ tmv n ≤ 4096000 := by decide

theorem L_tmv {k : Int} (h : 0 ≤ k ∧ k ≤ 36) : 1000 ≤ tmv k ∧ tmv k ≤ 4096000 := by
  obtain ⟨n, rfl⟩ : ∃ n : Nat, k = n := ⟨k.toNat, by omega⟩
  exact L_tmvAll n (by omega)

theorem L_tms {k s : Int} (h : 0 ≤ k ∧ k ≤ 36) (hs : 0 ≤ s ∧ s ≤ 1000) : wrap64 (tmv k * s) = tmv k * s := by
  have h1 := L_tmv h
  have h2 := L_mulb (x := tmv k) (y := s) (X := 4096000) (Y := 1000) (by omega) (by omega) hs.1 hs.2
  exact L_w (by omega)

theorem L_specSlowFrom {s : Int} (hs : 0 ≤ s ∧ s ≤ 1000) (d : Nat) : ∀ (k : Nat) (i : Int), 0 ≤ i → i + d = 37 → d < k → spec_l04Slower.l0 k s i = some (if D_slowFrom s d i ≤ 36 then D_slowFrom s d i else -1) := by
  induction d with
  | zero =>
    intro k i h0 hd hk
    obtain ⟨k, rfl⟩ : ∃ m, k = m + 1 := ⟨k - 1, by omega⟩
    have e : D_slowFrom s 0 i = i := rfl
    simp only [spec_l04Slower.l0]
    rw [if_neg (by omega), e, if_neg (by omega)]
  | succ d ih =>
    intro k i h0 hd hk
    obtain ⟨k, rfl⟩ : ∃ m, k = m + 1 := ⟨k - 1, by omega⟩
    simp only [spec_l04Slower.l0]
    rw [if_pos (by omega), L_specTime (by omega)]
    simp only [Option.bind_some]
    rw [L_tms (by omega) hs]
    by_cases h : tmv i * s < 1000000
    · have e : D_slowFrom s (d + 1) i = D_slowFrom s d (i + 1) := by simp only [D_slowFrom]; rw [if_pos h]
      rw [if_neg (by omega), L_w (x := i + 1) (by omega), e]
      exact ih k (i + 1) (by omega) (by omega) (by omega)
    · have e : D_slowFrom s (d + 1) i = i := by simp only [D_slowFrom]; rw [if_neg h]
      rw [if_pos (by omega), e, if_pos (by omega)]

theorem L_specSlower {s : Int} (hs : 0 ≤ s ∧ s ≤ 1000) {k : Nat} (hk : 38 ≤ k) : spec_l04Slower.f k s = some (if D_slow s ≤ 36 then D_slow s else -1) :=
  L_specSlowFrom hs 37 k 0 (by omega) (by omega) (by omega)

theorem L_specSheet {p k c d v u g a : Int} (hc : -128 ≤ c ∧ c ≤ 127) (hd : -128 ≤ d ∧ d ≤ 127) (hD : D_dev p k c d) (hV : D_vol p v u g) (ha : 1 ≤ a ∧ a ≤ 5000) {n : Nat} (hn : 38 ≤ n) :
    spec_l04Sheet.f n p k c d v u g a = some (if D_slow (D_strength p k v u g) ≤ 36 then (v, u + a, g, decide (D_vol p v (u + a) g)) else (0, 0, 0, false)) := by
  unfold spec_l04Sheet.f
  have hs := L_strengthRange hD hV
  have hr := L_slowRange (D_strength p k v u g)
  have hv := hV
  unfold D_vol at hv
  rw [L_specStrength hD hV]
  simp only [Option.bind_some]
  rw [L_specSlower hs hn]
  simp only [Option.bind_some]
  by_cases h : D_slow (D_strength p k v u g) ≤ 36
  · rw [if_pos h, if_neg (by omega), L_w (x := u + a) (by omega), L_specOk hc hd, if_pos h]
    simp [hD]
  · rw [if_neg h, if_pos (by omega), if_neg h]

theorem L_specDevSheet {p k c d v u g a : Int} (hc : -128 ≤ c ∧ c ≤ 127) (hd : -128 ≤ d ∧ d ≤ 127) {n : Nat} (hn : 38 ≤ n) : spec_DevelopSheet.f n p k c d v u g a = some (D_sheet p k c d v u g a) := by
  unfold spec_DevelopSheet.f D_sheet
  rw [L_specOk hc hd, L_in]
  simp only [Option.bind_some, decide_eq_true_eq]
  by_cases h : D_dev p k c d ∧ D_vol p v u g
  · rw [if_pos h, if_pos h]
    by_cases h1 : 1 ≤ a ∧ a ≤ 5000
    · rw [if_pos h1, if_pos h1, L_specSheet hc hd h.1 h.2 h1 hn]
      simp only [Option.bind_some]
      by_cases h2 : D_slow (D_strength p k v u g) ≤ 36
      · rw [if_pos h2]
        by_cases h3 : D_vol p v (u + a) g
        · simp [h2, h3]
        · simp [h3]
      · rw [if_neg h2]
        simp [h2]
    · rw [if_neg h1, if_neg h1]
  · rw [if_neg h, if_neg h]

theorem L_specRest {p k c d v u g m : Int} (hc : -128 ≤ c ∧ c ≤ 127) (hd : -128 ≤ d ∧ d ≤ 127) :
    spec_RestBath.f p k c d v u g m = some (if D_dev p k c d ∧ D_vol p v u g then (if 0 ≤ m ∧ m ≤ 100000 then (if D_vol p v u (g + m) then (v, u, g + m, 0) else (0, 0, 0, 4)) else (0, 0, 0, 2)) else (0, 0, 0, 1)) := by
  unfold spec_RestBath.f
  rw [L_specOk hc hd, L_specOk hc hd, L_in]
  simp only [Option.bind_some, decide_eq_true_eq]
  split
  · rename_i h
    have hv := h.2
    unfold D_vol at hv
    split
    · rename_i hm
      rw [L_w (x := g + m) (by omega)]
      by_cases hh : D_vol p v u (g + m)
      · rw [if_pos ⟨h.1, hh⟩, if_pos hh]
      · rw [if_neg (fun x => hh x.2), if_neg hh]
    · rfl
  · rfl

theorem L_specFill {p v u g m : Int} (h : D_vol p v u g) (hm : 0 ≤ m ∧ m ≤ v) : spec_l04Fill.f v u g m = some (D_fill v u g m) := by
  unfold D_vol at h
  have h1 := L_fillb (x := u) (v := v) (m := m) (X := 100000000) (by omega) (by omega) hm
  have h2 := L_fillb (x := g) (v := v) (m := m) (X := 100000) (by omega) (by omega) hm
  unfold spec_l04Fill.f D_fill
  rw [if_neg (by omega), L_w (x := v - m) (by omega), L_w (x := u * (v - m)) (by omega), L_w (x := g * (v - m)) (by omega), Int.tdiv_eq_ediv_of_nonneg h1.1.1, Int.tdiv_eq_ediv_of_nonneg h2.1.1,
    L_w (x := u * (v - m) / v) (by omega), L_w (x := g * (v - m) / v) (by omega)]

theorem L_specReplenish {p k c d v u g m : Int} (hc : -128 ≤ c ∧ c ≤ 127) (hd : -128 ≤ d ∧ d ≤ 127) :
    spec_Replenish.f p k c d v u g m = some (if D_dev p k c d ∧ D_vol p v u g then (if 0 ≤ m ∧ m ≤ v then ((D_fill v u g m).1, (D_fill v u g m).2.1, (D_fill v u g m).2.2, 0) else (0, 0, 0, 2)) else (0, 0, 0, 1)) := by
  unfold spec_Replenish.f
  rw [L_specOk hc hd, L_in]
  simp only [Option.bind_some, decide_eq_true_eq]
  split
  · rename_i h
    split
    · rename_i hm; rw [L_specFill h.2 hm]; rfl
    · rfl
  · rfl

theorem L_specAct {p k c d v u g : Int} (hc : -128 ≤ c ∧ c ≤ 127) (hd : -128 ≤ d ∧ d ≤ 127) (x : S65) {n : Nat} (hn : 38 ≤ n) : spec_l04Act.f n p k c d v u g x.f0 x.f1 = some (D_do1 p k c d v u g x) := by
  unfold spec_l04Act.f D_do1
  rw [L_specDevSheet hc hd hn, L_specRest hc hd, L_specReplenish hc hd]
  simp only [Option.bind_some]
  split
  · rfl
  · split <;> rfl

theorem L_specDo {p k c d : Int} (hc : -128 ≤ c ∧ c ≤ 127) (hd : -128 ≤ d ∧ d ≤ 127) (l : List S65) (hn : l.length ≤ 1048576) (e : Nat) : ∀ (n : Nat) (b : List S47) (i v u g : Int), 0 ≤ i → i + e = l.length → e + 40 ≤ n → (b.length : Int) ≤ i + 1 →
    spec_l04Do.l0 n l b i p k c d v u g = some (b ++ (D_run p k c d (l.drop i.toNat) v u g).1, (D_run p k c d (l.drop i.toNat) v u g).2) := by
  induction e with
  | zero =>
    intro n b i v u g h0 hi hk hb
    obtain ⟨n, rfl⟩ : ∃ m, n = m + 1 := ⟨n - 1, by omega⟩
    simp only [spec_l04Do.l0]
    rw [if_neg (by omega), List.drop_eq_nil_of_le (by omega)]; simp [D_run]
  | succ e ih =>
    intro n b i v u g h0 hi hk hb
    obtain ⟨n, rfl⟩ : ∃ m, n = m + 1 := ⟨n - 1, by omega⟩
    obtain ⟨hi', e'⟩ := L_rdAS (l := l) (i := i) h0 (by omega)
    have q : l.drop i.toNat = rd_T65 l i :: l.drop (i + 1).toNat := by rw [List.drop_eq_getElem_cons hi', e', show (i + 1).toNat = i.toNat + 1 by omega]
    simp only [spec_l04Do.l0]
    rw [if_pos (by omega), if_pos h0, L_specAct hc hd _ (by omega), q]
    simp only [Option.bind_some, D_run]
    by_cases h : (D_do1 p k c d v u g (rd_T65 l i)).2.2.2 = 0
    · simp only [if_pos h]
      rw [if_pos (by omega), L_w (x := i + 1) (by omega), ih n (b ++ [_]) (i + 1) _ _ _ (by omega) (by omega) (by omega) (by simp; omega)]
      simp
    · simp only [if_neg h]
      simp

theorem L_specDo0 {p k c d v u g : Int} (hc : -128 ≤ c ∧ c ≤ 127) (hd : -128 ≤ d ∧ d ≤ 127) (l : List S65) (hn : l.length ≤ 1048576) {n : Nat} (hk : l.length + 40 ≤ n) :
    spec_l04Do.f n p k c d v u g l = some ((⟨v, u, g⟩ : S47) :: (D_run p k c d l v u g).1, (D_run p k c d l v u g).2) := by
  unfold spec_l04Do.f
  rw [L_specDo hc hd l hn l.length n _ 0 v u g (by omega) (by omega) hk (by simp)]
  rfl

theorem L_implStrength {p k v u g c d : Int} (hD : D_dev p k c d) (hV : D_vol p v u g) : impl_Bath_strength.f v u g p k c d = some (D_strength p k v u g) := by
  unfold impl_Bath_strength.f D_strength
  have hDD := hD
  have hVV := hV
  unfold D_dev at hDD
  unfold D_vol at hVV
  have h1 := L_mulb (x := v) (y := p) (X := 20000) (Y := 100000) (by omega) (by omega) (by omega) (by omega)
  have h0 : 0 < v * p := Int.mul_pos (by omega) (by omega)
  have h3 := L_quot (a := 1000 * (v * p - 1000 * u)) (b := v * p) (q := 1000) (by omega) h0 (by omega)
  rw [L_w (x := v * p) (by omega), if_neg (by omega), if_neg (by omega), L_w (x := 1000 * u) (by omega), L_w (x := v * p - 1000 * u) (by omega), L_w (x := 1000 * (v * p - 1000 * u)) (by omega),
      Int.tdiv_eq_ediv_of_nonneg (a := 1000 * (v * p - 1000 * u)) (by omega), L_w (x := 1000 * (v * p - 1000 * u) / (v * p)) (by omega), L_w (x := k - g) (by omega)]
  by_cases hg : g ≥ k
  · rw [if_pos hg, show mx 0 (k - g) = 0 by unfold mx; omega, Int.mul_zero]
    simp [wrap64]
  · obtain ⟨_, h2, h3⟩ := L_strengthParts (a := 0) (b := 0) hD hV (by omega)
    have h4 := L_quot h3.1 (show 0 < k by omega) h3.2
    rw [if_neg hg, show mx 0 (k - g) = k - g by unfold mx; omega, L_w (x := 1000 * (v * p - 1000 * u) / (v * p) * (k - g)) (by omega), Int.tdiv_eq_ediv_of_nonneg h3.1, L_w (by omega)]

theorem L_isArea (a : Int) : impl_isArea.f a = some (decide (1 ≤ a ∧ a ≤ 5000)) := by unfold impl_isArea.f; rw [L_within]; rfl

theorem L_areThirds (a : Int) : impl_areThirds.f a = some (decide (0 ≤ a ∧ a ≤ 36)) := by
  unfold impl_areThirds.f; rw [L_within]; rfl

theorem L_timeOf {k : Int} (h : 0 ≤ k ∧ k ≤ 36) : impl_timeOf.f k = some (tmv k) := by
  unfold impl_timeOf.f; rw [if_pos h.1, if_pos h.2]

theorem L_implSlowFrom {s : Int} (hs : 0 ≤ s ∧ s ≤ 1000) (d : Nat) : ∀ (k : Nat) (i : Int), 0 ≤ i → i + d = 37 → d < k → impl_slower.l0 k s i = some (D_slowFrom s d i) := by
  induction d with
  | zero =>
    intro k i h0 hd hk
    obtain ⟨k, rfl⟩ : ∃ m, k = m + 1 := ⟨k - 1, by omega⟩
    simp only [impl_slower.l0, D_slowFrom, L_areThirds, Option.bind_some, decide_eq_true_eq]
    rw [if_neg (by omega)]
  | succ d ih =>
    intro k i h0 hd hk
    obtain ⟨k, rfl⟩ : ∃ m, k = m + 1 := ⟨k - 1, by omega⟩
    simp only [impl_slower.l0, D_slowFrom, L_areThirds, Option.bind_some, decide_eq_true_eq]
    rw [if_pos (by omega), L_timeOf (by omega)]
    simp only [Option.bind_some]
    rw [L_tms (by omega) hs]
    by_cases h : tmv i * s < 1000000
    · rw [if_pos h, L_w (x := i + 1) (by omega), if_pos h]
      exact ih k (i + 1) (by omega) (by omega) (by omega)
    · rw [if_neg h, if_neg h]

theorem L_implSlower {s : Int} (hs : 0 ≤ s ∧ s ≤ 1000) {k : Nat} (hk : 38 ≤ k) : impl_slower.f k s = some (D_slow s) :=
  L_implSlowFrom hs 37 k 0 (by omega) (by omega) (by omega)

theorem L_checked {p k c d v u g e : Int} (hD : D_dev p k c d) : impl_checked.f p k c d v u g e = some (if D_vol p v u g then (v, u, g, 0) else (0, 0, 0, e)) := by
  unfold impl_checked.f
  rw [L_isBath hD]
  simp only [Option.bind_some, decide_eq_true_eq]
  split <;> rfl

theorem L_implDevSheet {p k c d v u g a : Int} (hc : -128 ≤ c ∧ c ≤ 127) (hd : -128 ≤ d ∧ d ≤ 127) {n : Nat} (hn : 38 ≤ n) : impl_DevelopSheet.f n p k c d v u g a = some (D_sheet p k c d v u g a) := by
  unfold impl_DevelopSheet.f D_sheet
  rw [L_implBath hc hd, L_isArea]
  simp only [Option.bind_some, decide_eq_true_eq]
  by_cases h : D_dev p k c d ∧ D_vol p v u g
  · rw [if_pos h, if_pos h]
    by_cases h1 : 1 ≤ a ∧ a ≤ 5000
    · rw [if_pos h1, if_pos h1, L_implStrength h.1 h.2]
      have hs := L_strengthRange h.1 h.2
      have hr := L_slowRange (D_strength p k v u g)
      have hv := h.2
      unfold D_vol at hv
      simp only [Option.bind_some]
      rw [L_implSlower hs hn]
      simp only [Option.bind_some, L_areThirds, decide_eq_true_eq]
      rw [L_w (x := u + a) (by omega), L_checked h.1]
      simp only [Option.bind_some]
      by_cases h2 : D_slow (D_strength p k v u g) ≤ 36
      · rw [if_pos ⟨hr.1, h2⟩]
        by_cases h3 : D_vol p v (u + a) g
        · rw [if_pos h3, if_pos ⟨h2, h3⟩]
        · rw [if_neg h3, if_neg (fun x => h3 x.2)]
      · rw [if_neg (by omega), if_neg (fun x => h2 x.1)]
    · rw [if_neg h1, if_neg h1]
  · rw [if_neg h, if_neg h]

theorem L_implRest {p k c d v u g m : Int} (hc : -128 ≤ c ∧ c ≤ 127) (hd : -128 ≤ d ∧ d ≤ 127) :
    impl_RestBath.f p k c d v u g m = some (if D_dev p k c d ∧ D_vol p v u g then (if 0 ≤ m ∧ m ≤ 100000 then (if D_vol p v u (g + m) then (v, u, g + m, 0) else (0, 0, 0, 4)) else (0, 0, 0, 2)) else (0, 0, 0, 1)) := by
  unfold impl_RestBath.f
  rw [L_implBath hc hd, L_within]
  simp only [Option.bind_some, decide_eq_true_eq]
  split
  · rename_i h
    have hv := h.2
    unfold D_vol at hv
    split
    · rename_i hm
      rw [L_w (x := g + m) (by omega), L_checked h.1]
      simp only [Option.bind_some]
    · rfl
  · rfl

theorem L_implFill {p v u g m : Int} (h : D_vol p v u g) (hm : 0 ≤ m ∧ m ≤ v) : impl_Bath_replenished.f v u g m = some (D_fill v u g m) := by
  unfold D_vol at h
  have h1 := L_fillb (x := u) (v := v) (m := m) (X := 100000000) (by omega) (by omega) hm
  have h2 := L_fillb (x := g) (v := v) (m := m) (X := 100000) (by omega) (by omega) hm
  unfold impl_Bath_replenished.f D_fill
  rw [if_neg (by omega), L_w (x := v - m) (by omega), L_w (x := u * (v - m)) (by omega), L_w (x := g * (v - m)) (by omega), Int.tdiv_eq_ediv_of_nonneg h1.1.1, Int.tdiv_eq_ediv_of_nonneg h2.1.1,
    L_w (x := u * (v - m) / v) (by omega), L_w (x := g * (v - m) / v) (by omega)]

theorem L_implReplenish {p k c d v u g m : Int} (hc : -128 ≤ c ∧ c ≤ 127) (hd : -128 ≤ d ∧ d ≤ 127) :
    impl_Replenish.f p k c d v u g m = some (if D_dev p k c d ∧ D_vol p v u g then (if 0 ≤ m ∧ m ≤ v then ((D_fill v u g m).1, (D_fill v u g m).2.1, (D_fill v u g m).2.2, 0) else (0, 0, 0, 2)) else (0, 0, 0, 1)) := by
  unfold impl_Replenish.f
  rw [L_implBath hc hd, L_within]
  simp only [Option.bind_some, decide_eq_true_eq]
  split
  · rename_i h
    split
    · rename_i hm; rw [L_implFill h.2 hm]; rfl
    · rfl
  · rfl

theorem L_implAct {p k c d v u g : Int} (hc : -128 ≤ c ∧ c ≤ 127) (hd : -128 ≤ d ∧ d ≤ 127) (x : S65) {n : Nat} (hn : 38 ≤ n) : impl_Act_do.f n x.f0 x.f1 p k c d v u g = some (D_do1 p k c d v u g x) := by
  unfold impl_Act_do.f D_do1
  rw [L_implDevSheet hc hd hn, L_implRest hc hd, L_implReplenish hc hd]
  simp only [Option.bind_some]
  split
  · rfl
  · split <;> rfl

theorem L_implDo {p k c d : Int} (hc : -128 ≤ c ∧ c ≤ 127) (hd : -128 ≤ d ∧ d ≤ 127) (hD : D_dev p k c d) (l : List S65) (hn : l.length ≤ 1048576) (e : Nat) : ∀ (n : Nat) (b : List Int) (i v u g : Int), 0 ≤ i → i + e = l.length → e + 40 ≤ n → (b.length : Int) ≤ i + 1 → D_vol p v u g →
    impl_doAll.l0 n l b l (l.length : Int) i p k c d v u g = some ((D_lastB v u g (D_run p k c d (l.drop i.toNat) v u g).1).f0, (D_lastB v u g (D_run p k c d (l.drop i.toNat) v u g).1).f1, (D_lastB v u g (D_run p k c d (l.drop i.toNat) v u g).1).f2,
      i + ((D_run p k c d (l.drop i.toNat) v u g).1.length : Int), b ++ (D_run p k c d (l.drop i.toNat) v u g).1.map (fun x => D_strength p k x.f0 x.f1 x.f2), (D_run p k c d (l.drop i.toNat) v u g).2) := by
  induction e with
  | zero =>
    intro n b i v u g h0 hi hk hb hV
    obtain ⟨n, rfl⟩ : ∃ m, n = m + 1 := ⟨n - 1, by omega⟩
    simp only [impl_doAll.l0]
    rw [if_neg (by omega), List.drop_eq_nil_of_le (by omega)]
    simp [D_run, D_lastB]; omega
  | succ e ih =>
    intro n b i v u g h0 hi hk hb hV
    obtain ⟨n, rfl⟩ : ∃ m, n = m + 1 := ⟨n - 1, by omega⟩
    obtain ⟨hi', e'⟩ := L_rdAS (l := l) (i := i) h0 (by omega)
    have q : l.drop i.toNat = rd_T65 l i :: l.drop (i + 1).toNat := by rw [List.drop_eq_getElem_cons hi', e', show (i + 1).toNat = i.toNat + 1 by omega]
    simp only [impl_doAll.l0]
    rw [if_pos (by omega), if_pos h0, if_pos (by omega), L_implAct hc hd _ (by omega), q]
    simp only [Option.bind_some, D_run]
    by_cases h : (D_do1 p k c d v u g (rd_T65 l i)).2.2.2 = 0
    · have h1 := L_do1Vol _ hV h
      simp only [if_pos h]
      rw [L_implStrength hD h1]
      simp only [Option.bind_some]
      rw [if_pos (by omega), L_w (x := i + 1) (by omega), ih n (b ++ [_]) (i + 1) _ _ _ (by omega) (by omega) (by omega) (by simp; omega) h1]
      simp only [D_lastB, List.getLastD_cons, List.map_cons, List.length_cons, List.append_assoc, List.cons_append, List.nil_append, Option.some.injEq, Prod.mk.injEq, true_and, and_true]
      omega
    · simp only [if_neg h]
      simp [D_lastB]

theorem L_implDo0 {p k c d v u g : Int} (hc : -128 ≤ c ∧ c ≤ 127) (hd : -128 ≤ d ∧ d ≤ 127) (hD : D_dev p k c d) (hV : D_vol p v u g) (l : List S65) (hn : l.length ≤ 1048576) {n : Nat} (hk : l.length + 40 ≤ n) :
    impl_doAll.f n p k c d v u g l = some ((D_lastB v u g (D_run p k c d l v u g).1).f0, (D_lastB v u g (D_run p k c d l v u g).1).f1, (D_lastB v u g (D_run p k c d l v u g).1).f2,
      ((D_run p k c d l v u g).1.length : Int), D_strength p k v u g :: (D_run p k c d l v u g).1.map (fun x => D_strength p k x.f0 x.f1 x.f2), (D_run p k c d l v u g).2) := by
  unfold impl_doAll.f
  rw [L_implStrength hD hV]
  simp only [Option.bind_some]
  rw [L_implDo hc hd hD l hn l.length n _ 0 v u g (by omega) (by omega) hk (by simp) hV]
  simp

theorem L_rdB {l : List S47} {i : Int} (h0 : 0 ≤ i) (h : i < l.length) : ∃ hi : i.toNat < l.length, rd_T47 l i = l[i.toNat]'hi :=
  ⟨by omega, by unfold rd_T47; rw [List.getD_eq_getElem?_getD, List.getElem?_eq_getElem (by omega)]; rfl⟩

theorem L_lastGet {α : Type} : ∀ (R : List α) (x : α), (x :: R)[R.length]'(by simp) = R.getLastD x
  | [], _ => rfl
  | y :: R, x => by
    rw [List.getLastD_cons]
    simpa using L_lastGet R y

theorem L_strengthsLoop {p k c d : Int} (hD : D_dev p k c d) (l : List S47) (hl : ∀ b ∈ l, D_vol p b.f0 b.f1 b.f2) (hn : l.length ≤ 1048577) (e : Nat) : ∀ (n : Nat) (o : List Int) (i : Int), 0 ≤ i → i + e = l.length → e < n → (o.length : Int) ≤ i →
    spec_StrengthsIn.l0 n l o i p k c d = some (o ++ (l.drop i.toNat).map (fun x => D_strength p k x.f0 x.f1 x.f2), 0) := by
  induction e with
  | zero =>
    intro n o i h0 hi hk ho
    obtain ⟨n, rfl⟩ : ∃ m, n = m + 1 := ⟨n - 1, by omega⟩
    simp only [spec_StrengthsIn.l0]
    rw [if_neg (by omega), List.drop_eq_nil_of_le (by omega)]; simp
  | succ e ih =>
    intro n o i h0 hi hk ho
    obtain ⟨n, rfl⟩ : ∃ m, n = m + 1 := ⟨n - 1, by omega⟩
    obtain ⟨hi', e'⟩ := L_rdB (l := l) (i := i) h0 (by omega)
    have q : l.drop i.toNat = rd_T47 l i :: l.drop (i + 1).toNat := by rw [List.drop_eq_getElem_cons hi', e', show (i + 1).toNat = i.toNat + 1 by omega]
    have hV := hl _ (List.getElem_mem hi')
    rw [← e'] at hV
    simp only [spec_StrengthsIn.l0]
    rw [if_pos (by omega), if_pos h0, L_specStrength hD hV, q]
    simp only [Option.bind_some]
    rw [if_pos (by omega), L_w (x := i + 1) (by omega), ih n (o ++ [_]) (i + 1) (by omega) (by omega) (by omega) (by simp; omega)]
    simp

/-- what the six calls on the whole list answer -/
theorem L_baFacts {p k c d v u g : Int} (hD : D_dev p k c d) (hV : D_vol p v u g) (l : List S65) (hl : l.length ≤ 60) (hk : D_kinds l) {n : Nat} (hn : 200 ≤ n) :
    ∃ (b1 b2 b3 two at_ three : Int) (M : List Int),
      spec_DoActs.f n p k c d v u g l = some (b1, b2, b3, two) ∧ impl_DoActs.f n p k c d v u g l = some (b1, b2, b3, two) ∧ spec_FirstFailure.f n p k c d v u g l = some (at_, three) ∧ impl_FirstFailure.f n p k c d v u g l = some (at_, three) ∧
      spec_StrengthsIn.f n p k c d v u g l = some (M, two) ∧ impl_StrengthsIn.f n p k c d v u g l = some (M, two) ∧ two = (D_run p k c d l v u g).2 ∧ M.length ≤ 61 ∧
      (two = 0 → three = 6 ∧ (⟨b1, b2, b3⟩ : S47) = D_lastB v u g (D_run p k c d l v u g).1 ∧ M = D_strength p k v u g :: (D_run p k c d l v u g).1.map (fun x => D_strength p k x.f0 x.f1 x.f2)) ∧
      (two ≠ 0 → three = 0 ∧ at_ = ((D_run p k c d l v u g).1.length : Int)) := by
  have hD' := hD
  unfold D_dev at hD'
  have hc : -128 ≤ c ∧ c ≤ 127 := by omega
  have hd : -128 ≤ d ∧ d ≤ 127 := by omega
  have h8 : D_actB l := fun x hx => by have := hk x hx; omega
  have hL : D_listed p k c d v u g l = 0 := by unfold D_listed; rw [if_pos ⟨hD, hV⟩, if_neg (by omega), if_pos hk]
  obtain ⟨f1, f2⟩ := L_runFacts p k c d l v u g hV
  have e1 := L_specListed (p := p) (k := k) (v := v) (u := u) (g := g) hc hd l h8 (by omega) (n := n) (by omega)
  have e2 := L_implListed (p := p) (k := k) (v := v) (u := u) (g := g) hc hd l h8
  have e3 := L_specDo0 (p := p) (k := k) (v := v) (u := u) (g := g) hc hd l (by omega) (n := n) (by omega)
  have e4 := L_implDo0 (p := p) (k := k) (v := v) (u := u) (g := g) hc hd hD hV l (by omega) (n := n) (by omega)
  rw [hL] at e1 e2
  generalize hR : D_run p k c d l v u g = R at *
  obtain ⟨Rn, cc⟩ := R
  by_cases h2 : cc = 0
  · subst h2
    refine ⟨(D_lastB v u g Rn).f0, (D_lastB v u g Rn).f1, (D_lastB v u g Rn).f2, 0, 0, 6, D_strength p k v u g :: Rn.map (fun x => D_strength p k x.f0 x.f1 x.f2), ?_, ?_, ?_, ?_, ?_, ?_, rfl, by simp at f1 ⊢; omega, fun _ => ⟨rfl, rfl, rfl⟩, fun h => absurd rfl h⟩
    · unfold spec_DoActs.f
      rw [e1]
      simp only [Option.bind_some, eq_self, if_true, e3]
      have e : wrap64 (((((⟨v, u, g⟩ : S47) :: Rn).length : Nat) : Int) - 1) = (Rn.length : Int) := by
        have f1' : Rn.length ≤ l.length := f1
        rw [List.length_cons, L_w (by omega)]; omega
      rw [e]
      have f1' : Rn.length ≤ l.length := f1
      obtain ⟨hi, e'⟩ := L_rdB (l := (⟨v, u, g⟩ : S47) :: Rn) (i := (Rn.length : Int)) (by omega) (by simp <;> omega)
      have e2' : rd_T47 ((⟨v, u, g⟩ : S47) :: Rn) (Rn.length : Int) = D_lastB v u g Rn := by
        rw [e']
        unfold D_lastB
        simp only [Int.toNat_natCast]
        exact L_lastGet Rn _
      rw [e2', if_pos (by omega), if_pos (by simp <;> omega)]
    · unfold impl_DoActs.f
      rw [e2]
      simp only [Option.bind_some, eq_self, if_true, e4]
    · unfold spec_FirstFailure.f
      rw [e1]
      simp only [Option.bind_some, eq_self, if_true, e3]
    · unfold impl_FirstFailure.f
      rw [e2]
      simp only [Option.bind_some, eq_self, if_true, e4]
    · unfold spec_StrengthsIn.f
      rw [e1]
      simp only [Option.bind_some, eq_self, if_true, e3]
      have f1' : Rn.length ≤ l.length := f1
      rw [L_strengthsLoop hD _ (fun b hb => by
        rcases List.mem_cons.1 hb with rfl | hb
        · exact hV
        · exact f2 b hb) (by simp; omega) (Rn.length + 1) n [] 0 (by omega) (by simp) (by omega) (by simp)]
      simp
    · unfold impl_StrengthsIn.f
      rw [e2]
      simp only [Option.bind_some, eq_self, if_true, e4]
  · refine ⟨0, 0, 0, cc, (Rn.length : Int), 0, [], ?_, ?_, ?_, ?_, ?_, ?_, rfl, by simp, fun h => absurd h h2, fun _ => ⟨rfl, rfl⟩⟩
    · unfold spec_DoActs.f
      rw [e1]
      simp only [Option.bind_some, eq_self, if_true, e3, if_neg h2]
    · unfold impl_DoActs.f
      rw [e2]
      simp only [Option.bind_some, eq_self, if_true, e4, if_neg h2]
    · unfold spec_FirstFailure.f
      rw [e1]
      simp only [Option.bind_some, eq_self, if_true, e3, if_neg h2]
      have f1' : Rn.length ≤ l.length := f1
      rw [List.length_cons, L_w (by omega)]
      congr 2; omega
    · unfold impl_FirstFailure.f
      rw [e2]
      simp only [Option.bind_some, eq_self, if_true, e4, if_neg h2]
    · unfold spec_StrengthsIn.f
      rw [e1]
      simp only [Option.bind_some, eq_self, if_true, e3, if_neg h2]
    · unfold impl_StrengthsIn.f
      rw [e2]
      simp only [Option.bind_some, eq_self, if_true, e4, if_neg h2]

theorem L_specStrengthOf {p k c d v u g : Int} (hc : -128 ≤ c ∧ c ≤ 127) (hd : -128 ≤ d ∧ d ≤ 127) : spec_StrengthOf.f p k c d v u g = some (if D_dev p k c d ∧ D_vol p v u g then (D_strength p k v u g, 0) else (0, 1)) := by
  unfold spec_StrengthOf.f
  rw [L_specOk hc hd]
  simp only [Option.bind_some, decide_eq_true_eq]
  split
  · rename_i h; rw [L_specStrength h.1 h.2]; rfl
  · rfl

/-- one round: the act at hand, and what is left -/
theorem L_baRound {p k c d v u g : Int} (hD : D_dev p k c d) (hV : D_vol p v u g) (l : List S65) (i : Int) (h0 : 0 ≤ i) (hi : i < l.length) (R : List S47) (cc : Int) (hR : D_run p k c d (l.drop i.toNat) v u g = (R, cc)) :
    ∃ n1 n2 n3 c2, D_do1 p k c d v u g (rd_T65 l i) = (n1, n2, n3, c2) ∧ (c2 ≠ 0 → cc = c2 ∧ R = []) ∧
      (c2 = 0 → ∃ R', R = (⟨n1, n2, n3⟩ : S47) :: R' ∧ D_run p k c d (l.drop (i + 1).toNat) n1 n2 n3 = (R', cc) ∧ D_vol p n1 n2 n3 ∧ D_lastB n1 n2 n3 R' = D_lastB v u g R ∧ spec_StrengthOf.f p k c d n1 n2 n3 = some (D_strength p k n1 n2 n3, 0)) := by
  obtain ⟨hi', e'⟩ := L_rdAS (l := l) (i := i) h0 hi
  rw [List.drop_eq_getElem_cons hi', ← e'] at hR
  rw [show (i + 1).toNat = i.toNat + 1 by omega]
  obtain ⟨⟨n1, n2, n3, c2⟩, hq⟩ : ∃ q, q = D_do1 p k c d v u g (rd_T65 l i) := ⟨_, rfl⟩
  have hvol := L_do1Vol (k := k) (c := c) (d := d) (rd_T65 l i) hV
  refine ⟨n1, n2, n3, c2, hq.symm, fun h => ?_, fun h => ?_⟩
  · unfold D_run at hR
    rw [← hq, if_neg h] at hR
    obtain ⟨a, b⟩ := Prod.mk.inj hR
    exact ⟨b.symm, a.symm⟩
  · subst h
    unfold D_run at hR
    rw [← hq] at hR hvol
    rw [if_pos rfl] at hR
    obtain ⟨a, b⟩ := Prod.mk.inj hR
    have hV2 : D_vol p n1 n2 n3 := hvol rfl
    have hD' := hD
    unfold D_dev at hD'
    refine ⟨(D_run p k c d (List.drop (i.toNat + 1) l) n1 n2 n3).1, a.symm, ?_, hV2, ?_, ?_⟩
    · rw [← b]
    · rw [← a]
      unfold D_lastB
      rw [List.getLastD_cons]
    · rw [L_specStrengthOf (by omega) (by omega), if_pos ⟨hD, hV2⟩]

def D_sum (p k c d v u g t deg : Int) : Int := t + D_slow (D_strength p k v u g) + (c - deg) / d

def D_devTime (p k c d v u g t deg : Int) : Int × Int :=
  if D_dev p k c d ∧ D_vol p v u g then (if (0 ≤ t ∧ t ≤ 36) ∧ 5 ≤ deg ∧ deg ≤ 50 then (if D_slow (D_strength p k v u g) ≤ 36 then
    (if 0 ≤ D_sum p k c d v u g t deg ∧ D_sum p k c d v u g t deg ≤ 36 then (tmv (D_sum p k c d v u g t deg), 0) else (0, 3)) else (0, 4)) else (0, 2)) else (0, 1)

theorem L_tmvMonoAll : ∀ i : Nat, i < 37 → ∀ j : Nat, j < 37 → i ≤ j → tmv i ≤ tmv j := by decide +kernel

theorem L_tmvMono {i j : Int} (h0 : 0 ≤ i) (h : i ≤ j) (h1 : j ≤ 36) : tmv i ≤ tmv j := by
  obtain ⟨n, rfl⟩ : ∃ n : Nat, i = n := ⟨i.toNat, by omega⟩
  obtain ⟨m, rfl⟩ : ∃ m : Nat, j = m := ⟨j.toNat, by omega⟩
  exact L_tmvMonoAll n (by omega) m (by omega) (by omega)

/-- warmer is not slower -/
theorem L_devWarm {p k c d v u g t deg tm wm : Int} (hD : D_dev p k c d) (h1 : D_devTime p k c d v u g t deg = (tm, 0)) (h2 : D_devTime p k c d v u g t (deg + 1) = (wm, 0)) : wm ≤ tm := by
  have hD' := hD
  unfold D_dev at hD'
  unfold D_devTime at h1 h2
  split at h1
  · rename_i a1
    rw [if_pos a1] at h2
    split at h1
    · rename_i a2
      split at h2
      · rename_i a3
        split at h1
        · rename_i a4
          rw [if_pos a4] at h2
          split at h1
          · rename_i a5
            split at h2
            · rename_i a6
              obtain ⟨rfl, _⟩ := Prod.mk.inj h1
              obtain ⟨rfl, _⟩ := Prod.mk.inj h2
              refine L_tmvMono a6.1 ?_ a5.2
              unfold D_sum
              have : (c - (deg + 1)) / d ≤ (c - deg) / d := Int.ediv_le_ediv (by omega) (by omega)
              omega
            · simp at h2
          · simp at h1
        · simp at h1
      · simp at h2
    · simp at h1
  · simp at h1

theorem L_runFull (p k c d : Int) : ∀ (l : List S65) (v u g : Int), (D_run p k c d l v u g).2 = 0 → (D_run p k c d l v u g).1.length = l.length
  | [], v, u, g, _ => by simp [D_run]
  | x :: r, v, u, g, h => by
    unfold D_run at h ⊢
    by_cases h1 : (D_do1 p k c d v u g x).2.2.2 = 0
    · rw [if_pos h1] at h ⊢
      simpa using L_runFull p k c d r _ _ _ h
    · rw [if_neg h1] at h
      exact absurd h h1

theorem L_rdMem (m : List Int) {i : Int} (h0 : 0 ≤ i) (h : i < m.length) : rd m i ∈ m := by
  unfold rd
  have hh : i.toNat < m.length := by omega
  rw [show m.getD i.toNat 0 = m[i.toNat] by simp [List.getD, List.getElem?_eq_getElem hh]]
  exact List.getElem_mem hh

theorem L_among {l : List Int} (hl : ∀ x ∈ l, 0 ≤ x ∧ x ≤ 255) {a : Int} (ha : 0 ≤ a ∧ a ≤ 4611686018427387000) (z : Int) (m : List Int) (hm : 0 < m.length) :
    ∃ x b y, spec_l00Src_among.f l a z m = some (x, b, y) ∧ x ∈ m ∧ a ≤ b ∧ b ≤ a + 2 := by
  unfold spec_l00Src_among.f
  obtain ⟨x, b, y, e, h0, hx, h1, h2⟩ := L_pick hl ha z (m.length : Int)
  rw [e]
  simp only [Option.bind_some]
  rw [if_pos h0, if_pos (by omega)]
  exact ⟨_, _, _, rfl, L_rdMem m h0 (by omega), h1, h2⟩

theorem L_devDrawn {l : List Int} (hl : ∀ x ∈ l, 0 ≤ x ∧ x ≤ 255) {a : Int} (ha : 0 ≤ a ∧ a ≤ 4611686018427386000) (z : Int) :
    ∃ p k c d b y, spec_l04DeveloperDrawn.f l a z = some (p, k, c, d, b, y) ∧ D_dev p k c d ∧ p ≤ 5000 ∧ a ≤ b ∧ b ≤ a + 8 := by
  unfold spec_l04DeveloperDrawn.f
  obtain ⟨p, b, y, e, hp, h1, h2⟩ := L_among hl (a := a) (by omega) z [100, 1000, 3000, 5000] (by decide)
  rw [e]
  simp only [Option.bind_some]
  obtain ⟨k, b1, y1, e1, hk, h3, h4⟩ := L_among hl (a := b) (by omega) y [1, 20, 100, 500] (by decide)
  rw [e1]
  simp only [Option.bind_some]
  obtain ⟨c, b2, y2, e2, hc, h5, h6⟩ := L_among hl (a := b1) (by omega) y1 [18, 20, 24] (by decide)
  rw [e2]
  simp only [Option.bind_some]
  obtain ⟨d, b3, y3, e3, hd0, hd, h7, h8⟩ := L_pick hl (a := b2) (by omega) y2 4
  rw [e3]
  simp only [Option.bind_some]
  simp only [List.mem_cons, List.not_mem_nil, or_false] at hp hk hc
  rw [L_w (x := 1 + d) (by omega), L_w8 (x := 1 + d) (by omega), L_w8 (x := c) (by omega)]
  refine ⟨_, _, _, _, _, _, rfl, ?_, by omega, by omega, by omega⟩
  unfold D_dev
  omega

theorem L_one {l : List Int} (hl : ∀ x ∈ l, 0 ≤ x ∧ x ≤ 255) {a : Int} (ha : 0 ≤ a ∧ a ≤ 4611686018427387000) (z n : Int) :
    ∃ x b y, spec_l00Src_one.f l a z n = some (x, b, y) ∧ a ≤ b ∧ b ≤ a + 2 := by
  unfold spec_l00Src_one.f
  obtain ⟨x, b, y, e, _, _, h1, h2⟩ := L_pick hl ha z n
  rw [e]
  exact ⟨_, _, _, rfl, h1, h2⟩

theorem L_bathDrawn {l : List Int} (hl : ∀ x ∈ l, 0 ≤ x ∧ x ≤ 255) {n : Nat} (hn : 1 ≤ n) :
    ∃ p k c d v u g, spec_A2Bath.f n l = some (p, k, c, d, v, u, g) ∧ D_dev p k c d ∧ D_vol p v u g ∧ v ≤ 2000 ∧ p ≤ 5000 := by
  obtain ⟨n, rfl⟩ : ∃ m, n = m + 1 := ⟨n - 1, by omega⟩
  unfold spec_A2Bath.f spec_l00From.f
  simp only [Option.bind_some]
  unfold spec_l04Drawn.f
  obtain ⟨p, k, c, d, b, y, e, hD, hp, h1, h2⟩ := L_devDrawn hl (a := 0) (by omega) 0
  rw [e]
  simp only [Option.bind_some]
  obtain ⟨v, b1, y1, e1, hv, h3, h4⟩ := L_among hl (a := b) (by omega) y [1, 100, 500, 1000, 2000] (by decide)
  rw [e1]
  simp only [Option.bind_some]
  simp only [List.mem_cons, List.not_mem_nil, or_false] at hv
  have hD' := hD
  unfold D_dev at hD'
  have hm := L_mulb (x := v) (y := p) (X := 2000) (Y := 5000) (by omega) (by omega) (by omega) (by omega)
  rw [L_w (x := v * p) (by omega), Int.tdiv_eq_ediv_of_nonneg hm.1, L_w (x := v * p / 1000) (by omega), L_w (x := v * p / 1000 + 1) (by omega)]
  obtain ⟨u, b2, y2, e2, hu0, hu, h5, h6⟩ := L_pick hl (a := b1) (by omega) y1 (v * p / 1000 + 1)
  rw [e2]
  simp only [Option.bind_some]
  obtain ⟨o, b3, y3, e3, h7, h8⟩ := L_one hl (a := b2) (by omega) y2 2
  rw [e3]
  simp only [Option.bind_some]
  have hu2 : 1000 * u ≤ v * p := by omega
  have J : ∀ u' : Int, 0 ≤ u' → u' ≤ u → ∃ p' k' c' d' v' u1 g q r, (spec_l04Drawn.j0 (n + 1) l b3 y3 p k c d v u' 0) = some (p', k', c', d', v', u1, g, q, r) ∧ D_dev p' k' c' d' ∧ D_vol p' v' u1 g ∧ v' ≤ 2000 ∧ p' ≤ 5000 := by
    intro u' h0 hu'
    rw [spec_l04Drawn.j0]
    rw [L_w (x := k + 1) (by omega)]
    obtain ⟨g, b4, y4, e4, hg0, hg, h9, h10⟩ := L_pick hl (a := b3) (by omega) y3 (k + 1)
    rw [e4]
    simp only [Option.bind_some]
    obtain ⟨o', b5, y5, e5, _, _⟩ := L_one hl (a := b4) (by omega) y4 2
    rw [e5]
    simp only [Option.bind_some]
    split
    · rw [Int.tdiv_eq_ediv_of_nonneg hg0, L_w (x := g / 4) (by omega)]
      refine ⟨_, _, _, _, _, _, _, _, _, rfl, hD, ?_, by omega, by omega⟩
      unfold D_vol; omega
    · refine ⟨_, _, _, _, _, _, _, _, _, rfl, hD, ?_, by omega, by omega⟩
      unfold D_vol; omega
  split
  · rw [Int.tdiv_eq_ediv_of_nonneg hu0, L_w (x := u / 4) (by omega)]
    obtain ⟨_, _, _, _, _, _, _, _, _, e, h⟩ := J (u / 4) (by omega) (by omega)
    rw [e]
    exact ⟨_, _, _, _, _, _, _, rfl, h⟩
  · obtain ⟨_, _, _, _, _, _, _, _, _, e, h⟩ := J u (by omega) (by omega)
    rw [e]
    exact ⟨_, _, _, _, _, _, _, rfl, h⟩

theorem L_a2At {l : List Int} (hl : ∀ x ∈ l, 0 ≤ x ∧ x ≤ 255) {i n : Int} (hi : 0 ≤ i) (hn : 1 ≤ n) : ∃ x, laws_a2At.f l i n = some x ∧ 0 ≤ x ∧ x < n := by
  unfold laws_a2At.f
  by_cases h : i ≥ (l.length : Int)
  · rw [if_pos h]
    exact ⟨0, rfl, by omega, by omega⟩
  · have hb := L_rdByte hl i
    rw [if_neg h, if_neg (show ¬ n < 1 by omega), if_pos hi, if_pos (show i < (l.length : Int) by omega), if_neg (show ¬ n = 0 by omega), L_w (x := rd l i) (by omega), Int.tmod_eq_emod_of_nonneg hb.1]
    exact ⟨_, rfl, Int.emod_nonneg _ (by omega), Int.emod_lt_of_pos _ (by omega)⟩

theorem L_floor {a b : Int} (ha : -1000 ≤ a ∧ a ≤ 1000) (hb : 1 ≤ b ∧ b ≤ 10) : impl_floor.f a b = some (a / b) := by
  unfold impl_floor.f
  rcases Int.lt_or_le a 0 with hn | hn
  · rw [if_pos hn, if_neg (by omega), L_w (x := -a) (by omega), L_w (x := -a + b) (by omega), L_w (x := -a + b - 1) (by omega), Int.tdiv_eq_ediv_of_nonneg (by omega)]
    obtain rfl | rfl | rfl | rfl | rfl | rfl | rfl | rfl | rfl | rfl : b = 1 ∨ b = 2 ∨ b = 3 ∨ b = 4 ∨ b = 5 ∨ b = 6 ∨ b = 7 ∨ b = 8 ∨ b = 9 ∨ b = 10 := by omega
    all_goals (congr 1; unfold wrap64; omega)
  · have h2 : 0 ≤ a / b := Int.ediv_nonneg hn (by omega)
    have h3 : a / b ≤ a := Int.ediv_le_self _ hn
    rw [if_neg (by omega), if_neg (by omega), Int.tdiv_eq_ediv_of_nonneg hn, L_w (by omega)]

theorem L_floorb {a b : Int} (ha : -1000 ≤ a ∧ a ≤ 1000) (hb : 1 ≤ b ∧ b ≤ 10) : -1000 ≤ a / b ∧ a / b ≤ 1000 := by
  obtain rfl | rfl | rfl | rfl | rfl | rfl | rfl | rfl | rfl | rfl : b = 1 ∨ b = 2 ∨ b = 3 ∨ b = 4 ∨ b = 5 ∨ b = 6 ∨ b = 7 ∨ b = 8 ∨ b = 9 ∨ b = 10 := by omega
  all_goals omega

theorem L_implDevTime {p k c d v u g t deg : Int} (hc : -128 ≤ c ∧ c ≤ 127) (hd : -128 ≤ d ∧ d ≤ 127) {n : Nat} (hn : 38 ≤ n) : impl_DevelopTime.f n p k c d v u g t deg = some (D_devTime p k c d v u g t deg) := by
  unfold impl_DevelopTime.f D_devTime
  rw [L_implBath hc hd]
  simp only [Option.bind_some, L_areThirds, L_within, decide_eq_true_eq]
  by_cases h : D_dev p k c d ∧ D_vol p v u g
  · rw [if_pos h, if_pos h]
    by_cases h1 : 0 ≤ t ∧ t ≤ 36
    · by_cases h2 : 5 ≤ deg ∧ deg ≤ 50
      · rw [if_pos h1, if_pos h2, if_pos ⟨h1, h2⟩, L_implStrength h.1 h.2]
        have hs := L_strengthRange h.1 h.2
        simp only [Option.bind_some]
        rw [L_implSlower hs hn]
        have hr := L_slowRange (D_strength p k v u g)
        have hD := h.1
        unfold D_dev at hD
        simp only [Option.bind_some]
        rw [L_w (x := c) (by omega), L_w (x := d) (by omega), L_w (x := c - deg) (by omega), L_floor (by omega) (by omega)]
        have hf := L_floorb (a := c - deg) (b := d) (by omega) (by omega)
        simp only [Option.bind_some]
        rw [L_w (x := t + D_slow (D_strength p k v u g)) (by omega), L_w (x := t + D_slow (D_strength p k v u g) + (c - deg) / d) (by omega)]
        unfold D_sum
        by_cases h3 : D_slow (D_strength p k v u g) ≤ 36
        · rw [if_pos ⟨hr.1, h3⟩, if_pos h3]
          by_cases h4 : 0 ≤ t + D_slow (D_strength p k v u g) + (c - deg) / d ∧ t + D_slow (D_strength p k v u g) + (c - deg) / d ≤ 36
          · rw [if_pos h4, if_pos h4, L_timeOf h4]; rfl
          · rw [if_neg h4, if_neg h4]
        · rw [if_neg (by omega), if_neg h3]
      · rw [if_pos h1, if_neg h2, if_neg (by omega)]
    · rw [if_neg h1, if_neg (by omega)]
  · rw [if_neg h, if_neg h]

theorem L_down {a b : Int} (ha : -1000 ≤ a ∧ a ≤ 1000) (hb : 1 ≤ b ∧ b ≤ 10) : spec_l04Down.f a b = some (a / b) := by
  unfold spec_l04Down.f
  rw [if_neg (by omega)]
  rcases Int.lt_or_le a 0 with hn | hn
  · obtain ⟨n, rfl⟩ : ∃ n, a = -n := ⟨-a, by omega⟩
    rw [Int.neg_tmod, Int.neg_tdiv, Int.tmod_eq_emod_of_nonneg (by omega), Int.tdiv_eq_ediv_of_nonneg (by omega)]
    obtain rfl | rfl | rfl | rfl | rfl | rfl | rfl | rfl | rfl | rfl : b = 1 ∨ b = 2 ∨ b = 3 ∨ b = 4 ∨ b = 5 ∨ b = 6 ∨ b = 7 ∨ b = 8 ∨ b = 9 ∨ b = 10 := by omega
    all_goals (split <;> (congr 1; unfold wrap64; omega))
  · rw [Int.tmod_eq_emod_of_nonneg hn, Int.tdiv_eq_ediv_of_nonneg hn]
    have h1 := Int.emod_nonneg a (show b ≠ 0 by omega)
    have h2 : 0 ≤ a / b := Int.ediv_nonneg hn (by omega)
    have h3 : a / b ≤ a := Int.ediv_le_self _ hn
    rw [if_neg (by omega), L_w (by omega)]

theorem L_specDevTime {p k c d v u g t deg : Int} (hc : -128 ≤ c ∧ c ≤ 127) (hd : -128 ≤ d ∧ d ≤ 127) {n : Nat} (hn : 39 ≤ n) : spec_DevelopTime.f n p k c d v u g t deg = some (D_devTime p k c d v u g t deg) := by
  obtain ⟨n, rfl⟩ : ∃ m, n = m + 1 := ⟨n - 1, by omega⟩
  unfold spec_DevelopTime.f D_devTime
  rw [L_specOk hc hd]
  simp only [Option.bind_some, L_in, decide_eq_true_eq, spec_DevelopTime.j0]
  by_cases h : D_dev p k c d ∧ D_vol p v u g
  · rw [if_pos h, if_pos h]
    by_cases h1 : 0 ≤ t ∧ t ≤ 36
    · by_cases h2 : 5 ≤ deg ∧ deg ≤ 50
      · have e : (!decide (5 ≤ deg ∧ deg ≤ 50)) = false := by simp [h2]
        rw [if_pos h1, e]
        simp only [Bool.false_eq_true, if_false]
        rw [if_pos (show (0 ≤ t ∧ t ≤ 36) ∧ 5 ≤ deg ∧ deg ≤ 50 from ⟨h1, h2⟩), L_specStrength h.1 h.2]
        have hs := L_strengthRange h.1 h.2
        simp only [Option.bind_some]
        rw [L_specSlower hs (by omega)]
        have hr := L_slowRange (D_strength p k v u g)
        have hD := h.1
        unfold D_dev at hD
        simp only [Option.bind_some]
        unfold D_sum
        by_cases h3 : D_slow (D_strength p k v u g) ≤ 36
        · rw [if_pos h3, if_neg (by omega), if_pos h3]
          rw [L_w (x := c) (by omega), L_w (x := d) (by omega), L_w (x := c - deg) (by omega), L_down (by omega) (by omega)]
          have hf := L_floorb (a := c - deg) (b := d) (by omega) (by omega)
          simp only [Option.bind_some]
          rw [L_w (x := t + D_slow (D_strength p k v u g)) (by omega), L_w (x := t + D_slow (D_strength p k v u g) + (c - deg) / d) (by omega)]
          by_cases h4 : 0 ≤ t + D_slow (D_strength p k v u g) + (c - deg) / d ∧ t + D_slow (D_strength p k v u g) + (c - deg) / d ≤ 36
          · rw [if_pos h4, if_pos h4, L_specTime h4]; rfl
          · rw [if_neg h4, if_neg h4]
        · rw [if_neg h3, if_pos (by omega), if_neg h3]
      · have e : (!decide (5 ≤ deg ∧ deg ≤ 50)) = true := by simp [h2]
        rw [if_pos h1, e]
        simp only [if_true]
        rw [if_neg (show ¬ ((0 ≤ t ∧ t ≤ 36) ∧ 5 ≤ deg ∧ deg ≤ 50) from fun x => h2 x.2)]
    · rw [if_neg h1]
      simp only [if_true]
      rw [if_neg (show ¬ ((0 ≤ t ∧ t ≤ 36) ∧ 5 ≤ deg ∧ deg ≤ 50) from fun x => h1 x.1)]
  · rw [if_neg h, if_neg h]

theorem L_rdGet {l : List Int} {i : Int} (h0 : 0 ≤ i) (h : i < l.length) : ∃ hi : i.toNat < l.length, rd l i = l[i.toNat]'hi :=
  ⟨by omega, by unfold rd; rw [List.getD_eq_getElem?_getD, List.getElem?_eq_getElem (by omega)]; rfl⟩

theorem L_dropStep {α : Type} {i : Int} {Rn R' : List α} {x : α} (h0 : 0 ≤ i) (h : Rn.drop i.toNat = x :: R') : Rn.drop (i + 1).toNat = R' ∧ i + 1 ≤ (Rn.length : Int) := by
  have hlt : i.toNat < Rn.length := by
    rcases Nat.lt_or_ge i.toNat Rn.length with q | q
    · exact q
    · rw [List.drop_eq_nil_of_le q] at h; simp at h
  rw [List.drop_eq_getElem_cons hlt] at h
  obtain ⟨_, b⟩ := List.cons.inj h
  rw [show (i + 1).toNat = i.toNat + 1 by omega]
  exact ⟨b, by omega⟩

theorem L_rdMapAt {α : Type} (a : Int) (f : α → Int) {i : Int} {Rn R' : List α} {x : α} (h0 : 0 ≤ i) (h : Rn.drop i.toNat = x :: R') : rd (a :: Rn.map f) (i + 1) = f x := by
  have hlt : i.toNat < Rn.length := by
    rcases Nat.lt_or_ge i.toNat Rn.length with q | q
    · exact q
    · rw [List.drop_eq_nil_of_le q] at h; simp at h
  rw [List.drop_eq_getElem_cons hlt] at h
  obtain ⟨b, _⟩ := List.cons.inj h
  unfold rd
  rw [show (i + 1).toNat = i.toNat + 1 by omega, List.getD_eq_getElem?_getD, List.getElem?_cons_succ, List.getElem?_map, List.getElem?_eq_getElem hlt, b]
  rfl


-- L_actsRead L_a2ActsDrawn L_a2SameActs L_a2Same L_baFacts L_baRound L_devWarm L_runFull L_bathDrawn L_a2At L_implDevTime L_specDevTime L_implDevSheet L_implRest L_implReplenish L_rdGet L_rdAS L_dropStep L_rdMapAt
end Go.Proofs.YtiehbagnebjadaaGreatDoor.PL
