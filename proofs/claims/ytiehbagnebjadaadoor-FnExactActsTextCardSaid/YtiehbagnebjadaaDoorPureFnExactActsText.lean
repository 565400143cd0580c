/- The plain law of FnExactActsText: the printed function of the law answers true for all arguments within their kinds' bounds. No condition besides. -/
import Derived.Test.YtiehbagnebjadaaDoorQx5
namespace Go.Proofs.YtiehbagnebjadaaDoor.Pure
open Go.RowKit Go.Proofs.YtiehbagnebjadaaDoor.Q Go.Proofs.YtiehbagnebjadaaDoorW.PrintWords Go.Proofs.YtiehbagnebjadaaDoorW.PrintLast Go.Proofs.YtiehbagnebjadaaDoorW.PrintMore
set_option linter.unusedVariables false
set_option linter.unusedSimpArgs false
def D_actB (l : List S56) : Prop := ∀ x ∈ l, -128 ≤ x.f0 ∧ x.f0 ≤ 127

def D_act (x : S58) : S56 := ⟨x.f0, x.f1⟩

theorem L_mapAct (l : List S58) (h : ∀ x ∈ l, -128 ≤ x.f0 ∧ x.f0 ≤ 127 ∧ -9223372036854775808 ≤ x.f1 ∧ x.f1 ≤ 9223372036854775807) : D_actB (l.map D_act) := by
  intro x hx
  simp only [List.mem_map] at hx
  obtain ⟨y, hy, rfl⟩ := hx
  have := h y hy
  unfold D_act
  dsimp only
  omega

theorem L_w {x : Int} (h : -9223372036854775808 ≤ x ∧ x ≤ 9223372036854775807) : wrap64 x = x := by unfold wrap64; omega

theorem L_szActs (l : List S58) (h : l.length * 16 ≤ 140737488351232) : laws_szActS.f l 1048576 = some (if 1048576 < (l.length : Int) then (-1 : Int) else (1048576 : Int) - (l.length : Int)) := by
  unfold laws_szActS.f; rw [L_w (by omega)]
  by_cases h : 1048576 < (l.length : Int)
  · rw [if_pos (by omega), if_pos h]
  · rw [if_neg (by omega), if_neg h]

theorem L_rdAL {l : List S58} {i : Int} (h0 : 0 ≤ i) (h : i < l.length) : ∃ hi : i.toNat < l.length, rd_T58 l i = l[i.toNat]'hi :=
  ⟨by omega, by unfold rd_T58; rw [List.getD_eq_getElem?_getD, List.getElem?_eq_getElem (by omega)]; rfl⟩

theorem L_toActsLoop (l : List S58) (hn : l.length ≤ 1048576) (d : Nat) : ∀ (k : Nat) (out : List S56) (i : Int), out.length = l.length → 0 ≤ i → i + d = l.length → d < k → out.take i.toNat = (l.map D_act).take i.toNat → laws_toActS.l0 k l out i = some (l.map D_act) := by
  induction d with
  | zero =>
    intro k out i ho h0 hd hk ht
    obtain ⟨k, rfl⟩ : ∃ m, k = m + 1 := ⟨k - 1, by omega⟩
    simp only [laws_toActS.l0]; rw [if_neg (by omega)]
    rw [List.take_of_length_le (by omega), List.take_of_length_le (by simp; omega)] at ht
    rw [ht]
  | succ d ih =>
    intro k out i ho h0 hd hk ht
    obtain ⟨k, rfl⟩ : ∃ m, k = m + 1 := ⟨k - 1, by omega⟩
    obtain ⟨hi, e⟩ := L_rdAL (l := l) (i := i) h0 (by omega)
    simp only [laws_toActS.l0, laws_toAct.f, Option.bind_some]; rw [if_pos (by omega), if_pos h0, if_pos (by omega), L_w (x := i + 1) (by omega)]
    refine ih k _ (i + 1) (by simpa using ho) (by omega) (by omega) (by omega) ?_
    rw [show (i + 1).toNat = i.toNat + 1 by omega, List.take_succ_eq_append_getElem (by simp; omega), List.take_succ_eq_append_getElem (by simpa using hi), List.getElem_set_self, List.take_set_of_le (by omega), ht, List.getElem_map, e]
    rfl

theorem L_toActs (l : List S58) (hn : l.length ≤ 1048576) {k : Nat} (hk : l.length < k) : laws_toActS.f k l = some (l.map D_act) := by
  unfold laws_toActS.f
  rw [if_pos (by omega), if_pos (by omega)]
  exact L_toActsLoop l hn l.length k _ 0 (by simp) (by omega) (by omega) hk (by simp)

def D_kinds (l : List S56) : Prop := ∀ x ∈ l, 0 ≤ x.f0 ∧ x.f0 ≤ 2
instance (l : List S56) : Decidable (D_kinds l) := by unfold D_kinds; infer_instance

def D_told (l : List S56) : Prop := ((∀ x ∈ l, 0 ≤ x.f1 ∧ x.f1 ≤ 100000) ∧ D_kinds l) ∧ (l.length : Int) ≤ 60
instance (l : List S56) : Decidable (D_told l) := by unfold D_told; infer_instance

def D_word (z : Int) : ByteArray := rdOf ByteArray.empty ([(⟨#[115, 104, 101, 101, 116]⟩ : ByteArray), (⟨#[114, 101, 115, 116]⟩ : ByteArray), (⟨#[114, 101, 112, 108, 101, 110, 105, 115, 104]⟩ : ByteArray)] : List ByteArray) z

def D_actsText : List S56 → ByteArray → ByteArray
  | [], s => s
  | x :: r, s => D_actsText r (s ++ (((D_word x.f0 ++ (⟨#[32]⟩ : ByteArray)) ++ (⟨(Lib.decDigits x.f1.toNat).toArray⟩ : ByteArray)) ++ (⟨#[10]⟩ : ByteArray)))

theorem L_rdAS {l : List S56} {i : Int} (h0 : 0 ≤ i) (h : i < l.length) : ∃ hi : i.toNat < l.length, rd_T56 l i = l[i.toNat]'hi :=
  ⟨by omega, by unfold rd_T56; rw [List.getD_eq_getElem?_getD, List.getElem?_eq_getElem (by omega)]; rfl⟩

theorem L_sd {p q : Prop} [Decidable p] [Decidable q] (h : p ↔ q) : some (decide p) = some (decide q) := by rw [decide_eq_decide.mpr h]

theorem L_sf {q : Prop} [Decidable q] (h : ¬ q) : some false = some (decide q) := by rw [decide_eq_false h]

theorem L_in (a b c : Int) : spec_l00In.f a b c = some (decide (b ≤ a ∧ a ≤ c)) := by
  unfold spec_l00In.f
  split
  · exact L_sd (by omega)
  · exact L_sf (by omega)

theorem L_kindsLoop (l : List S56) (h8 : D_actB l) (hn : l.length ≤ 140737488351232) (d : Nat) : ∀ (k : Nat) (i : Int), 0 ≤ i → i + d = l.length → d < k →
    spec_l04Kinds.l0 k l i = some (decide (∀ x ∈ l.drop i.toNat, 0 ≤ x.f0 ∧ x.f0 ≤ 2)) := by
  induction d with
  | zero =>
    intro k i h0 hd hk
    obtain ⟨k, rfl⟩ : ∃ m, k = m + 1 := ⟨k - 1, by omega⟩
    simp only [spec_l04Kinds.l0]
    rw [if_neg (by omega), List.drop_eq_nil_of_le (by omega)]
    rfl
  | succ d ih =>
    intro k i h0 hd hk
    obtain ⟨k, rfl⟩ : ∃ m, k = m + 1 := ⟨k - 1, by omega⟩
    obtain ⟨hi, e⟩ := L_rdAS (l := l) (i := i) h0 (by omega)
    have h1 := h8 _ (List.getElem_mem hi)
    rw [← e] at h1
    simp only [spec_l04Kinds.l0]
    rw [if_pos (by omega), if_pos h0, L_w (x := i + 1) (by omega), L_w (x := (rd_T56 l i).f0) (by omega), L_in, List.drop_eq_getElem_cons hi, ← e]
    simp only [Option.bind_some, decide_eq_true_eq]
    split
    · rename_i hx
      rw [ih k (i + 1) (by omega) (by omega) (by omega), show (i + 1).toNat = i.toNat + 1 by omega]
      exact L_sd (by simp [hx])
    · rename_i hx
      exact L_sf (fun h => hx (h _ (by simp)))

theorem L_plainLoop (l : List S56) (h8 : D_actB l) (hn : l.length ≤ 1048576) (d : Nat) : ∀ (k : Nat) (i : Int), 0 ≤ i → i + d = l.length → d + l.length + 1 < k →
    spec_l04Plain.l0 k l i = some (decide (((∀ x ∈ l.drop i.toNat, 0 ≤ x.f1 ∧ x.f1 ≤ 100000) ∧ D_kinds l) ∧ (l.length : Int) ≤ 60)) := by
  induction d with
  | zero =>
    intro k i h0 hd hk
    obtain ⟨k, rfl⟩ : ∃ m, k = m + 1 := ⟨k - 1, by omega⟩
    simp only [spec_l04Plain.l0]
    rw [if_neg (by omega), List.drop_eq_nil_of_le (by omega)]
    unfold spec_l04Kinds.f
    rw [L_kindsLoop l h8 (by omega) l.length k 0 (by omega) (by omega) (by omega)]
    simp only [Option.bind_some, decide_eq_true_eq, Int.toNat_zero, List.drop_zero]
    by_cases h : ∀ x ∈ l, 0 ≤ x.f0 ∧ x.f0 ≤ 2
    · rw [if_pos h]
      exact L_sd ⟨fun x => ⟨⟨by simp, h⟩, x⟩, fun x => x.2⟩
    · rw [if_neg h]
      exact L_sf (fun x => h x.1.2)
  | succ d ih =>
    intro k i h0 hd hk
    obtain ⟨k, rfl⟩ : ∃ m, k = m + 1 := ⟨k - 1, by omega⟩
    obtain ⟨hi, e⟩ := L_rdAS (l := l) (i := i) h0 (by omega)
    simp only [spec_l04Plain.l0]
    rw [if_pos (by omega), if_pos h0, L_w (x := i + 1) (by omega), L_in, List.drop_eq_getElem_cons hi, ← e]
    simp only [Option.bind_some, decide_eq_true_eq]
    split
    · rename_i hx
      rw [ih k (i + 1) (by omega) (by omega) (by omega), show (i + 1).toNat = i.toNat + 1 by omega]
      refine L_sd ⟨fun h => ⟨⟨fun x hx' => ?_, h.1.2⟩, h.2⟩, fun h => ⟨⟨fun x hx' => h.1.1 x (List.mem_cons_of_mem _ hx'), h.1.2⟩, h.2⟩⟩
      rcases List.mem_cons.1 hx' with rfl | hm
      · exact hx
      · exact h.1.1 x hm
    · rename_i hx
      exact L_sf (fun h => hx (h.1.1 _ (by simp)))

theorem L_specPlain (l : List S56) (h8 : D_actB l) (hn : l.length ≤ 1048576) {k : Nat} (hk : 2 * l.length + 1 < k) : spec_l04Plain.f k l = some (decide (D_told l)) := by
  unfold spec_l04Plain.f D_told
  rw [L_plainLoop l h8 hn l.length k 0 (by omega) (by omega) (by omega)]
  simp only [Int.toNat_zero, List.drop_zero]

theorem L_idxAnyOn {α : Type} (q : α → Option Bool) (p : α → Bool) : ∀ (l : List α) (i : Int), (∀ x ∈ l, q x = some (p x)) → 0 ≤ i → ∃ r, D_idx q l i = some r ∧ (l.any p = false → r = -1) ∧ (l.any p = true → 0 ≤ r)
  | [], i, _, hi => ⟨-1, rfl, fun _ => rfl, fun h => by simp at h⟩
  | x :: t, i, h, hi => by
    simp only [D_idx, h x (by simp), Option.bind_some]
    by_cases hx : p x = true
    · rw [if_pos hx]
      exact ⟨i, rfl, fun h => by simp [hx] at h, fun _ => hi⟩
    · rw [if_neg hx]
      obtain ⟨r, h1, h2, h3⟩ := L_idxAnyOn q p t (i + 1) (fun y hy => h y (by simp [hy])) (by omega)
      refine ⟨r, h1, fun h => h2 (by simpa [hx] using h), fun h => h3 (by simpa [hx] using h)⟩

theorem L_within (a b c : Int) : impl_within.f a b c = some (decide (b ≤ a ∧ a ≤ c)) := by
  unfold impl_within.f
  split
  · exact L_sd (by omega)
  · exact L_sf (by omega)

theorem L_anyIff {α : Type} (P : α → Prop) [DecidablePred P] (l : List α) (r : Int) (h2 : l.any (fun x => !decide (P x)) = false → r = -1) (h3 : l.any (fun x => !decide (P x)) = true → 0 ≤ r) [Decidable (∀ x ∈ l, P x)] :
    decide (0 ≤ r) = !decide (∀ x ∈ l, P x) := by
  by_cases h : ∀ x ∈ l, P x
  · have e : l.any (fun x => !decide (P x)) = false := by rw [List.any_eq_false]; intro x hx; simp [h x hx]
    rw [h2 e, decide_eq_true h]
    rfl
  · have e : l.any (fun x => !decide (P x)) = true := by
      rw [List.any_eq_true]
      obtain ⟨x, hx⟩ := Classical.not_forall.1 h
      obtain ⟨hx, hh⟩ := Classical.not_imp.1 hx
      exact ⟨x, hx, by simp only [Bool.not_eq_true', decide_eq_false_iff_not]; exact hh⟩
    rw [decide_eq_false h, decide_eq_true (h3 e)]
    rfl


theorem L_implKinds (l : List S56) (h8 : D_actB l) : impl_areKinds.f l = some (decide (D_kinds l)) := by
  unfold impl_areKinds.f impl_Act_64.f impl_Act_81.f
  rw [if_pos rfl]
  obtain ⟨r, h1, h2, h3⟩ := L_idxAnyOn (fun x : S56 => impl_areKinds_1.f x.f0 x.f1) (fun x => !decide (0 ≤ x.f0 ∧ x.f0 ≤ 2)) l 0 (fun x hx => by
    have := h8 x hx
    unfold impl_areKinds_1.f
    rw [L_w (x := x.f0) (by omega), L_within]; rfl) (by omega)
  rw [h1]
  simp only [Option.bind_some]
  rw [L_anyIff (fun x : S56 => 0 ≤ x.f0 ∧ x.f0 ≤ 2) l r h2 h3]
  simp only [Bool.not_not]
  rfl

theorem L_implTold (l : List S56) (h8 : D_actB l) : impl_areTold.f l = some (decide (D_told l)) := by
  unfold impl_areTold.f D_told
  rw [L_implKinds l h8]
  simp only [Option.bind_some, decide_eq_true_eq]
  by_cases h1 : (l.length : Int) ≤ 60
  · rw [if_pos h1]
    by_cases h2 : D_kinds l
    · rw [if_pos h2]
      unfold impl_Act_64.f impl_Act_81.f
      rw [if_neg (by decide), if_pos rfl]
      obtain ⟨r, e1, e2, e3⟩ := L_idxAnyOn (fun x : S56 => impl_areTold_1.f x.f0 x.f1) (fun x => !decide (0 ≤ x.f1 ∧ x.f1 ≤ 100000)) l 0 (fun x hx => by
        unfold impl_areTold_1.f
        rw [L_within]; rfl) (by omega)
      rw [e1]
      simp only [Option.bind_some]
      rw [L_anyIff (fun x : S56 => 0 ≤ x.f1 ∧ x.f1 ≤ 100000) l r e2 e3]
      simp only [Bool.not_not]
      exact L_sd ⟨fun x => ⟨⟨x, h2⟩, h1⟩, fun x => x.1.1⟩
    · rw [if_neg h2]
      exact L_sf (fun x => h2 x.1.2)
  · rw [if_neg h1]
    exact L_sf (fun x => h1 x.2)

theorem L_wordSize {z : Int} (h : 0 ≤ z ∧ z ≤ 2) : (D_word z).size ≤ 9 := by
  obtain rfl | rfl | rfl : z = 0 ∨ z = 1 ∨ z = 2 := by omega
  · decide
  · decide
  · decide

theorem L_strOne {n : Nat} (h : n < 256) : strOfNums [(n : Int)] = ⟨#[UInt8.ofNat n]⟩ := by
  simp [strOfNums]

theorem L_push (l : List UInt8) (x : UInt8) : (⟨l.toArray⟩ : ByteArray) ++ (⟨#[x]⟩ : ByteArray) = ⟨(l ++ [x]).toArray⟩ := by
  apply ByteArray.ext
  simp [ByteArray.data_append]

theorem L_specDecimal : ∀ (d k n : Nat), n < 10 ^ d → d ≤ 18 → d ≤ k → 1 ≤ k → spec_Decimal.f k (n : Int) = some ⟨(Lib.decDigits n).toArray⟩ ∧ (Lib.decDigits n).length ≤ d + 1
  | d, 0, n, _, _, _, h => absurd h (by omega)
  | d, k + 1, n, h, hd, hk, _ => by
    rw [spec_Decimal.f]
    by_cases h10 : n < 10
    · rw [if_pos (by omega), Lib.decDigits, dif_pos h10, Int.tmod_eq_emod_of_nonneg (by omega), show (n : Int) % 10 = n by omega, L_w (x := 48 + (n : Int)) (by omega), show (48 + (n : Int)) % 256 = ((48 + n : Nat) : Int) by omega, L_strOne (by omega)]
      exact ⟨rfl, by simp⟩
    · obtain ⟨d, rfl⟩ : ∃ e, d = e + 1 := ⟨d - 1, by cases d with | zero => simp at h; omega | succ d => omega⟩
      have hp : 10 ^ (d + 1) = 10 ^ d * 10 := Nat.pow_succ ..
      have hle : 10 ^ (d + 1) ≤ 10 ^ 18 := Nat.pow_le_pow_right (by omega) hd
      have h1 : n / 10 < 10 ^ d := by omega
      have hd1 : 1 ≤ d := by
        cases d with
        | zero => simp at h; omega
        | succ d => omega
      obtain ⟨e, hl⟩ := L_specDecimal d k (n / 10) h1 (by omega) (by omega) (by omega)
      have hq : (n : Int).tdiv 10 = ((n / 10 : Nat) : Int) := by rw [Int.tdiv_eq_ediv_of_nonneg (by omega)]; omega
      have hr : (48 + ((n : Int) % 10)) % 256 = ((48 + n % 10 : Nat) : Int) := by omega
      have e2 : Lib.decDigits n = Lib.decDigits (n / 10) ++ [UInt8.ofNat (48 + n % 10)] := by rw [Lib.decDigits, dif_neg h10]
      rw [if_neg (by omega), hq, L_w (x := ((n / 10 : Nat) : Int)) (by omega), e, Int.tmod_eq_emod_of_nonneg (by omega), L_w (x := 48 + (n : Int) % 10) (by omega), hr]
      simp only [Option.bind_some]
      rw [L_strOne (n := 48 + n % 10) (by omega), if_pos (by show (Lib.decDigits (n / 10)).length + 1 ≤ _; omega), L_push, ← e2]
      refine ⟨rfl, ?_⟩
      rw [e2, List.length_append]
      simp only [List.length_cons, List.length_nil]
      omega

theorem L_decOf {n : Int} (h0 : 0 ≤ n) (h : n < 1000000) {k : Nat} (hk : 6 ≤ k) : spec_Decimal.f k n = some ⟨(Lib.decDigits n.toNat).toArray⟩ ∧ (⟨(Lib.decDigits n.toNat).toArray⟩ : ByteArray).size ≤ 7 := by
  have := L_specDecimal 6 k n.toNat (by omega) (by omega) hk (by omega)
  rw [show ((n.toNat : Nat) : Int) = n by omega] at this
  exact this

theorem L_specTextLoop (l : List S56) (hN : ∀ x ∈ l, 0 ≤ x.f1 ∧ x.f1 ≤ 100000) (hK : D_kinds l) (hn : (l.length : Int) ≤ 60) (d : Nat) : ∀ (k : Nat) (s : ByteArray) (i : Int), 0 ≤ i → i + d = l.length → d + 6 < k → (s.size : Int) ≤ 18 * i →
    spec_l04Text.l0 k l s i = some (D_actsText (l.drop i.toNat) s) := by
  induction d with
  | zero =>
    intro k s i h0 hd hk hs
    obtain ⟨k, rfl⟩ : ∃ m, k = m + 1 := ⟨k - 1, by omega⟩
    simp only [spec_l04Text.l0]
    rw [if_neg (by omega), List.drop_eq_nil_of_le (by omega)]
    rfl
  | succ d ih =>
    intro k s i h0 hd hk hs
    obtain ⟨k, rfl⟩ : ∃ m, k = m + 1 := ⟨k - 1, by omega⟩
    obtain ⟨hi, e⟩ := L_rdAS (l := l) (i := i) h0 (by omega)
    have h1 := hN _ (List.getElem_mem hi)
    have h2 := hK _ (List.getElem_mem hi)
    rw [← e] at h1 h2
    have sp : (⟨#[32]⟩ : ByteArray).size = 1 := rfl
    have nl : (⟨#[10]⟩ : ByteArray).size = 1 := rfl
    have hw := L_wordSize h2
    obtain ⟨ed, hdd⟩ := L_decOf (n := (rd_T56 l i).f1) h1.1 (by omega) (k := k) (by omega)
    simp only [spec_l04Text.l0, spec_l04Words.f, Option.bind_some]
    rw [show rdOf ByteArray.empty ([(⟨#[115, 104, 101, 101, 116]⟩ : ByteArray), (⟨#[114, 101, 115, 116]⟩ : ByteArray), (⟨#[114, 101, 112, 108, 101, 110, 105, 115, 104]⟩ : ByteArray)] : List ByteArray) (rd_T56 l i).f0 = D_word (rd_T56 l i).f0 from rfl]
    simp only [List.length_cons, List.length_nil, Nat.zero_add, Nat.reduceAdd]
    rw [if_pos (show i < (l.length : Int) by omega), if_pos h0, if_pos h2.1, if_pos (show (rd_T56 l i).f0 < ((3 : Nat) : Int) by omega), if_pos (by omega), ed]
    simp only [Option.bind_some]
    generalize hq : (⟨(Lib.decDigits (rd_T56 l i).f1.toNat).toArray⟩ : ByteArray) = q at hdd ⊢
    rw [if_pos (by rw [ByteArray.size_append]; omega), if_pos (by rw [ByteArray.size_append, ByteArray.size_append]; omega), if_pos (by rw [ByteArray.size_append, ByteArray.size_append, ByteArray.size_append]; omega), L_w (x := i + 1) (by omega)]
    rw [ih k _ (i + 1) (by omega) (by omega) (by omega) (by rw [ByteArray.size_append, ByteArray.size_append, ByteArray.size_append, ByteArray.size_append]; omega), List.drop_eq_getElem_cons hi, ← e, show (i + 1).toNat = i.toNat + 1 by omega]
    simp only [D_actsText, hq]

theorem L_implDecT {n : Int} (h0 : 0 ≤ n) (h : n ≤ 100000) : impl_decimal.f n = some ⟨(Lib.decDigits n.toNat).toArray⟩ := by
  unfold impl_decimal.f Lib.itoa
  rw [if_pos (by omega), if_pos (by omega), if_neg (by omega)]

theorem L_implTextLoop (l : List S56) (hN : ∀ x ∈ l, 0 ≤ x.f1 ∧ x.f1 ≤ 100000) (hK : D_kinds l) (hn : (l.length : Int) ≤ 60) (d : Nat) : ∀ (k : Nat) (s : ByteArray) (i : Int), 0 ≤ i → i + d = l.length → d < k → (s.size : Int) ≤ 18 * i →
    impl_actsText.l0 k s l (l.length : Int) i = some (D_actsText (l.drop i.toNat) s) := by
  induction d with
  | zero =>
    intro k s i h0 hd hk hs
    obtain ⟨k, rfl⟩ : ∃ m, k = m + 1 := ⟨k - 1, by omega⟩
    simp only [impl_actsText.l0]
    rw [if_neg (by omega), List.drop_eq_nil_of_le (by omega)]
    rfl
  | succ d ih =>
    intro k s i h0 hd hk hs
    obtain ⟨k, rfl⟩ : ∃ m, k = m + 1 := ⟨k - 1, by omega⟩
    obtain ⟨hi, e⟩ := L_rdAS (l := l) (i := i) h0 (by omega)
    have h1 := hN _ (List.getElem_mem hi)
    have h2 := hK _ (List.getElem_mem hi)
    rw [← e] at h1 h2
    have sp : (⟨#[32]⟩ : ByteArray).size = 1 := rfl
    have nl : (⟨#[10]⟩ : ByteArray).size = 1 := rfl
    have hw := L_wordSize h2
    obtain ⟨_, hdd⟩ := L_decOf (n := (rd_T56 l i).f1) h1.1 (by omega) (k := 6) (by omega)
    simp only [impl_actsText.l0, impl_actWords.f, Option.bind_some]
    rw [show rdOf ByteArray.empty ([(⟨#[115, 104, 101, 101, 116]⟩ : ByteArray), (⟨#[114, 101, 115, 116]⟩ : ByteArray), (⟨#[114, 101, 112, 108, 101, 110, 105, 115, 104]⟩ : ByteArray)] : List ByteArray) (rd_T56 l i).f0 = D_word (rd_T56 l i).f0 from rfl]
    simp only [List.length_cons, List.length_nil, Nat.zero_add, Nat.reduceAdd]
    rw [if_pos (show i < (l.length : Int) by omega), if_pos h0, if_pos (show i < (l.length : Int) by omega), if_pos h2.1, if_pos (show (rd_T56 l i).f0 < ((3 : Nat) : Int) by omega), if_pos (by omega), L_implDecT h1.1 h1.2]
    simp only [Option.bind_some]
    generalize hq : (⟨(Lib.decDigits (rd_T56 l i).f1.toNat).toArray⟩ : ByteArray) = q at hdd ⊢
    rw [if_pos (by rw [ByteArray.size_append]; omega), if_pos (by rw [ByteArray.size_append, ByteArray.size_append]; omega), if_pos (by rw [ByteArray.size_append, ByteArray.size_append, ByteArray.size_append]; omega), L_w (x := i + 1) (by omega)]
    rw [ih k _ (i + 1) (by omega) (by omega) (by omega) (by rw [ByteArray.size_append, ByteArray.size_append, ByteArray.size_append, ByteArray.size_append]; omega), List.drop_eq_getElem_cons hi, ← e, show (i + 1).toNat = i.toNat + 1 by omega]
    simp only [D_actsText, hq]

theorem L_actsTexts (l : List S56) (h8 : D_actB l) (hn : l.length ≤ 1048576) {k : Nat} (hk : 2 * l.length + 100 < k) :
    spec_ActsText.f k l = some (if D_told l then D_actsText l ⟨#[]⟩ else ⟨#[]⟩) ∧ impl_ActsText.f k l = some (if D_told l then D_actsText l ⟨#[]⟩ else ⟨#[]⟩) := by
  unfold spec_ActsText.f impl_ActsText.f spec_l04Text.f impl_actsText.f
  rw [L_specPlain l h8 hn (by omega), L_implTold l h8]
  simp only [Option.bind_some, decide_eq_true_eq]
  by_cases h : D_told l
  · rw [if_pos h, if_pos h, if_pos h]
    have h' := h
    unfold D_told at h'
    rw [L_specTextLoop l h'.1.1 h'.1.2 h'.2 l.length k _ 0 (by omega) (by omega) (by omega) (by decide), L_implTextLoop l h'.1.1 h'.1.2 h'.2 l.length k _ 0 (by omega) (by omega) (by omega) (by decide)]
    exact ⟨rfl, rfl⟩
  · rw [if_neg h, if_neg h, if_neg h]
    exact ⟨rfl, rfl⟩

theorem L_eqActs (l : List S56) (hn : l.length ≤ 140737488351232) {k : Nat} (hk : l.length < k) : laws_eqActS.f k l l = some true := by
  have H : ∀ (d : Nat) (k : Nat) (i : Int), 0 ≤ i → i + d = l.length → d < k → laws_eqActS.l0 k l l i = some true := by
    intro d
    induction d with
    | zero =>
      intro k i h0 hd hk
      obtain ⟨k, rfl⟩ : ∃ m, k = m + 1 := ⟨k - 1, by omega⟩
      simp only [laws_eqActS.l0]; rw [if_neg (by omega)]
    | succ d ih =>
      intro k i h0 hd hk
      obtain ⟨k, rfl⟩ : ∃ m, k = m + 1 := ⟨k - 1, by omega⟩
      simp only [laws_eqActS.l0, laws_eqAct.f, if_true, Option.bind_some]; rw [if_pos (by omega), if_pos h0, if_pos (by omega), L_w (x := i + 1) (by omega)]
      exact ih k (i + 1) (by omega) (by omega) (by omega)
  unfold laws_eqActS.f; rw [if_pos rfl]; exact H l.length k 0 (by omega) (by omega) hk

theorem FnExactActsText : ∀ (l0 : List S58), (∀ x ∈ l0, -128 ≤ x.f0 ∧ x.f0 ≤ 127 ∧ -9223372036854775808 ≤ x.f1 ∧ x.f1 ≤ 9223372036854775807) → l0.length * 16 ≤ 140737488351232 → ∃ k, laws_FnExactActsText.f k l0 = some true := by
  intro l h8 hl
  have h8' := L_mapAct l h8
  refine ⟨2 * l.length + 200, ?_⟩
  unfold laws_FnExactActsText.f
  rw [L_szActs l hl]
  simp only [Option.bind_some]
  by_cases h : 1048576 < (l.length : Int)
  · rw [if_pos h]; rfl
  · rw [if_neg h, if_neg (by omega), L_toActs l (by omega) (by omega)]
    simp only [Option.bind_some]
    obtain ⟨e1, e2⟩ := L_actsTexts (l.map D_act) h8' (by simp <;> omega) (k := 2 * l.length + 200) (by simp <;> omega)
    rw [e1, e2]
    simp only [Option.bind_some, if_true]
    rw [L_eqActs _ (by simp <;> omega) (by simp <;> omega)]
    rfl

end Go.Proofs.YtiehbagnebjadaaDoor.Pure
