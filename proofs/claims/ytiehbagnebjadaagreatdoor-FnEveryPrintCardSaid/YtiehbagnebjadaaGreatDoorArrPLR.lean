-- Plain lemmas on logs.
import Derived.Test.YtiehbagnebjadaaGreatDoorQx6
import Derived.Test.YtiehbagnebjadaaGreatDoorQx8
import Derived.Test.YtiehbagnebjadaaGreatDoorQx10
import Derived.Test.YtiehbagnebjadaaGreatDoorQx14
import Derived.Test.YtiehbagnebjadaaGreatDoorArrPL
import Derived.Lib.SplitLaws
import Derived.Lib.ParseIntBCases
import Derived.Lib.ItoaNum
import Derived.Lib.IndexMore
namespace Go.Proofs.YtiehbagnebjadaaGreatDoor.PL
open Go.RowKit Go.Proofs.YtiehbagnebjadaaGreatDoor.Q Go.Proofs.YtiehbagnebjadaaGreatDoorW.PrintWords Go.Proofs.YtiehbagnebjadaaGreatDoorW.PrintLast Go.Proofs.YtiehbagnebjadaaGreatDoorW.PrintMore
set_option linter.unusedVariables false
set_option linter.unusedSimpArgs false
def D_u64s (l : List S89) : Prop := ∀ s ∈ l, 0 ≤ s.f0 ∧ s.f0 < 18446744073709551616

def D_okLog (P : List S116) (S : List S89) : Prop := D_curve P = true ∧ D_steps S ∧ D_u64s S

/-- the text of lines that end in b -/
def D_lined (b : UInt8) : List (List UInt8) → List UInt8
  | [] => []
  | x :: t => x ++ b :: D_lined b t

def D_glue (b : UInt8) : List (List UInt8) → List UInt8
  | [] => []
  | [x] => x
  | x :: y :: t => x ++ b :: D_glue b (y :: t)

def D_ptL (p : S116) : List UInt8 := Lib.itoa p.f0 ++ [58] ++ Lib.itoa p.f1

def D_crv (P : List S116) : List UInt8 := D_glue 32 (P.map D_ptL)

def D_hexC (d : Nat) : UInt8 := UInt8.ofNat (D_hexDig (d : Int)).toNat

/-- the last n digits of u to the base 16 -/
def D_hexN (u : Nat) : Nat → List UInt8
  | 0 => []
  | n + 1 => D_hexC (u / 16 ^ n % 16) :: D_hexN u n

/-- the line of a step -/
def D_sl (s : S89) : List UInt8 := D_hexN s.f0.toNat 16 ++ 32 :: Lib.decDigits s.f1.toNat

def D_TL (P : List S116) (S : List S89) : List UInt8 := D_lined 10 (D_crv P :: S.map D_sl)

theorem L_lineSz (s : ByteArray) (hs : s.size ≤ 1048576) : ((D_readLines33 s).headD ⟨#[]⟩).size ≤ 1048576 := by
  cases hl : D_readLines33 s with
  | nil => exact absurd hl (readl_ne s)
  | cons x r =>
    have := readc_size ⟨#[10]⟩ (min 33 (s.size + 1) - 1) s x (by unfold D_readLines33 at hl; rw [hl]; simp)
    simp only [List.headD_cons]
    omega

def D_mk (x : List UInt8) : ByteArray := ⟨x.toArray⟩

theorem L_linedLen (b : UInt8) : ∀ L : List (List UInt8), L.length ≤ (D_lined b L).length
  | [] => by simp
  | x :: t => by
    have := L_linedLen b t
    rw [D_lined, List.length_append, List.length_cons, List.length_cons]
    omega

theorem L_mkList (s : ByteArray) : D_mk s.data.toList = s := by
  obtain ⟨⟨l⟩⟩ := s
  rfl

theorem L_mapMk : ∀ (L : List ByteArray) (M : List (List UInt8)), L.map (·.data.toList) = M → L = M.map D_mk
  | [], M, h => by subst h; rfl
  | s :: L, M, h => by
    subst h
    rw [List.map_cons, List.map_cons, L_mkList, ← L_mapMk L _ rfl]

theorem L_index1 (b : UInt8) : ∀ (x r : List UInt8), b ∉ x → Lib.index (x ++ b :: r) [b] = (x.length : Int)
  | [], r, _ => by simp [Lib.index, List.isPrefixOf]
  | c :: x, r, h => by
    have hc : ¬ b = c := fun e => h (by rw [e]; simp)
    have ih := L_index1 b x r (fun e => h (List.mem_cons_of_mem _ e))
    rw [List.cons_append, Lib.index, if_neg (by simp [List.isPrefixOf, hc]), ih, if_neg (by simp)]
    simp

theorem L_splitK (b : UInt8) : ∀ (L : List (List UInt8)) (k : Nat), (∀ x ∈ L, b ∉ x) → L.length ≤ k → Lib.splitK [b] 0 k (D_lined b L) = L ++ [[]]
  | [], k, _, _ => by
    cases k with
    | zero => rfl
    | succ k => simp [Lib.splitK, D_lined, Lib.index]
  | x :: t, k, h, hk => by
    obtain ⟨k, rfl⟩ : ∃ m, k = m + 1 := ⟨k - 1, by simp only [List.length_cons] at hk; omega⟩
    rw [D_lined, Lib.splitK, L_index1 b x _ (h x (by simp)), if_neg (by simp)]
    have e1 : (x ++ b :: D_lined b t).take ((x.length : Int).toNat + 0) = x := by simp
    have e2 : (x ++ b :: D_lined b t).drop ((x.length : Int).toNat + ([b] : List UInt8).length) = D_lined b t := by
      rw [Int.toNat_natCast, List.drop_append, List.drop_eq_nil_of_le (by simp)]
      simp
    rw [e1, e2, L_splitK b t k (fun y hy => h y (List.mem_cons_of_mem _ hy)) (by simp only [List.length_cons] at hk; omega)]
    rfl

theorem L_glueNo {b c : UInt8} (hbc : b ≠ c) : ∀ (L : List (List UInt8)), (∀ x ∈ L, b ∉ x) → b ∉ D_glue c L
  | [], _ => by simp [D_glue]
  | [x], h => by rw [D_glue]; exact h x (by simp)
  | x :: y :: t, h => by
    rw [D_glue]
    simp only [List.mem_append, List.mem_cons, not_or]
    exact ⟨h x (by simp), hbc, L_glueNo hbc (y :: t) (fun z hz => h z (List.mem_cons_of_mem _ hz))⟩

theorem L_decDig : ∀ (n : Nat), ∀ c ∈ Lib.decDigits n, 48 ≤ c.toNat ∧ c.toNat ≤ 57 := by
  intro n
  induction n using Nat.strongRecOn with
  | _ n ih =>
    intro c hc
    rw [Lib.decDigits] at hc
    split at hc
    · rename_i h
      rw [List.mem_singleton] at hc
      rw [hc, UInt8.toNat_ofNat']
      omega
    · rename_i h
      rcases List.mem_append.1 hc with hc | hc
      · exact ih (n / 10) (by omega) c hc
      · rw [List.mem_singleton] at hc
        rw [hc, UInt8.toNat_ofNat']
        omega

theorem L_decNo {n : Nat} {b : UInt8} (h : b.toNat < 48 ∨ 57 < b.toNat) : b ∉ Lib.decDigits n := fun e => by
  have := L_decDig n b e
  omega

theorem L_itoaNo {v : Int} {b : UInt8} (h : (b.toNat < 48 ∨ 57 < b.toNat) ∧ b.toNat ≠ 45) : b ∉ Lib.itoa v := by
  unfold Lib.itoa
  split
  · intro e
    rcases List.mem_cons.1 e with e | e
    · rw [e] at h
      exact h.2 rfl
    · exact L_decNo h.1 e
  · exact L_decNo h.1

theorem L_ptNo {p : S116} {b : UInt8} (h : (b.toNat < 48 ∨ 57 < b.toNat) ∧ b.toNat ≠ 45 ∧ b.toNat ≠ 58) : b ∉ D_ptL p := by
  unfold D_ptL
  simp only [List.mem_append, List.mem_singleton, not_or]
  exact ⟨⟨L_itoaNo ⟨h.1, h.2.1⟩, fun e => h.2.2 (by rw [e]; rfl)⟩, L_itoaNo ⟨h.1, h.2.1⟩⟩

theorem L_ptsNo {P : List S116} {b : UInt8} (h : (b.toNat < 48 ∨ 57 < b.toNat) ∧ b.toNat ≠ 45 ∧ b.toNat ≠ 58) : ∀ x ∈ P.map D_ptL, b ∉ x := by
  intro x hx
  obtain ⟨p, _, rfl⟩ := List.mem_map.1 hx
  exact L_ptNo h

theorem L_crvNo {P : List S116} : (10 : UInt8) ∉ D_crv P := L_glueNo (by decide) _ (L_ptsNo ⟨Or.inl (by decide), by decide, by decide⟩)

def D_nib (c : UInt8) : Option Nat := if 48 ≤ c.toNat ∧ c.toNat ≤ 57 then some (c.toNat - 48) else if 97 ≤ c.toNat ∧ c.toNat ≤ 102 then some (c.toNat - 87) else none

theorem L_nibC {d : Nat} (h : d < 16) : D_nib (D_hexC d) = some d ∧ (∀ acc r, D_hexU acc (D_hexC d :: r) = if 1152921504606846976 ≤ acc then some none else D_hexU (acc * 16 + d) r) ∧ D_hexC d ≠ 32 ∧ D_hexC d ≠ 10 := by
  obtain rfl | rfl | rfl | rfl | rfl | rfl | rfl | rfl | rfl | rfl | rfl | rfl | rfl | rfl | rfl | rfl : d = 0 ∨ d = 1 ∨ d = 2 ∨ d = 3 ∨ d = 4 ∨ d = 5 ∨ d = 6 ∨ d = 7 ∨ d = 8 ∨ d = 9 ∨ d = 10 ∨ d = 11 ∨ d = 12 ∨ d = 13 ∨ d = 14 ∨ d = 15 := by omega
  all_goals exact ⟨by decide +kernel, fun _ _ => rfl, by decide +kernel, by decide +kernel⟩

theorem L_hexNNo (u : Nat) : ∀ n, (32 : UInt8) ∉ D_hexN u n ∧ (10 : UInt8) ∉ D_hexN u n
  | 0 => by simp [D_hexN]
  | n + 1 => by
    have h1 := L_hexNNo u n
    have h2 := L_nibC (d := u / 16 ^ n % 16) (by omega)
    rw [D_hexN]
    simp only [List.mem_cons, not_or]
    exact ⟨⟨fun e => h2.2.2.1 e.symm, h1.1⟩, fun e => h2.2.2.2 e.symm, h1.2⟩

theorem L_slNo {s : S89} : (10 : UInt8) ∉ D_sl s := by
  unfold D_sl
  simp only [List.mem_append, List.mem_cons, not_or]
  exact ⟨(L_hexNNo _ 16).2, by decide, L_decNo (Or.inl (by decide))⟩

theorem L_tlNo {P : List S116} {S : List S89} : ∀ x ∈ D_crv P :: S.map D_sl, (10 : UInt8) ∉ x := by
  intro x hx
  rcases List.mem_cons.1 hx with rfl | hx
  · exact L_crvNo
  · obtain ⟨s, _, rfl⟩ := List.mem_map.1 hx
    exact L_slNo

theorem L_lines33 (s : ByteArray) (P : List S116) (S : List S89) (h : D_okLog P S) (e : s.data.toList = D_TL P S) : D_readLines33 s = (D_crv P :: (S.map D_sl ++ [[]])).map D_mk := by
  have hsz := Lib.size_eq s
  have hl2 := h.2.1.2
  have hlen := L_linedLen 10 (D_crv P :: S.map D_sl)
  rw [List.length_cons, List.length_map] at hlen
  unfold D_readLines33
  refine L_mapMk _ _ ?_
  rw [Lib.splitB_data, e, show (⟨#[10]⟩ : ByteArray).data.toList = [10] from rfl]
  unfold D_TL at e ⊢
  rw [e] at hsz
  exact L_splitK 10 _ _ L_tlNo (by rw [List.length_cons, List.length_map]; omega)

theorem L_w16b (x : Int) : -32768 ≤ IntKind.i16.wrap x ∧ IntKind.i16.wrap x ≤ 32767 := by
  simp only [IntKind.wrap, IntKind.bits, IntKind.signed]
  simp
  omega

theorem L_readPtsB : ∀ (L : List ByteArray) (o o' : List S116), D_readPts L o = some o' → D_i16s o → D_i16s o' ∧ o'.length = o.length + L.length
  | [], o, o', h, hB => by cases h; exact ⟨hB, by simp⟩
  | s :: L, o, o', h, hB => by
    rw [D_readPts] at h
    split at h
    · rename_i x hx
      obtain ⟨h1, h2⟩ := L_readPtsB L _ o' h (by
        intro y hy
        rcases List.mem_append.1 hy with hy | hy
        · exact hB y hy
        · rw [List.mem_singleton] at hy
          subst hy
          unfold D_readPoint at hx
          split at hx
          · split at hx
            · cases hx
              exact ⟨L_w16b _, L_w16b _⟩
            · cases hx
          · cases hx)
      refine ⟨h1, ?_⟩
      rw [h2, List.length_append]
      simp only [List.length_cons, List.length_nil]
      omega
    · cases h

def D_okPt (l : List S116) : Prop := ∀ p ∈ l, (-200 ≤ p.f0 ∧ p.f0 ≤ 200) ∧ 0 ≤ p.f1 ∧ p.f1 ≤ 400

theorem L_decLen : ∀ (d n : Nat), n < 10 ^ d → 1 ≤ d → (Lib.decDigits n).length ≤ d
  | 0, _, _, h => absurd h (by omega)
  | d + 1, n, h, _ => by
    rw [Lib.decDigits]
    split
    · simp
    · rename_i hn
      have hp : 10 ^ (d + 1) = 10 ^ d * 10 := Nat.pow_succ ..
      have hd : 1 ≤ d := by
        cases d with
        | zero => simp at h; omega
        | succ d => omega
      have := L_decLen d (n / 10) (by omega) hd
      rw [List.length_append]
      simp only [List.length_cons, List.length_nil]
      omega

theorem L_itoaLen {n : Int} (h0 : -1000000 < n) (h : n < 1000000) : (Lib.itoa n).length ≤ 8 := by
  unfold Lib.itoa
  split
  · have := L_decLen 6 n.natAbs (by omega) (by omega)
    rw [List.length_cons]
    omega
  · have := L_decLen 6 n.toNat (by omega) (by omega)
    omega

theorem L_ptLen {p : S116} (h : (-200 ≤ p.f0 ∧ p.f0 ≤ 200) ∧ 0 ≤ p.f1 ∧ p.f1 ≤ 400) : (D_ptL p).length ≤ 17 := by
  have a := L_itoaLen (n := p.f0) (by omega) (by omega)
  have b := L_itoaLen (n := p.f1) (by omega) (by omega)
  unfold D_ptL
  simp only [List.length_append, List.length_cons, List.length_nil]
  omega

theorem L_joinTailLen (r : List S116) (h : D_okPt r) : (Lib.joinTail [32] (r.map D_ptL)).length ≤ 18 * r.length := by
  induction r with
  | nil => simp [Lib.joinTail]
  | cons p r ih =>
    have a := L_ptLen (h p (by simp))
    have b := ih (fun q hq => h q (by simp [hq]))
    simp only [Lib.joinTail, List.map_cons, List.flatten_cons, List.length_append, List.length_cons, List.length_nil] at b ⊢
    omega

theorem L_joinLen (l : List S116) (hl : D_okPt l) (hn : l.length ≤ 12) : (Lib.join (l.map D_ptL) [32]).length ≤ 300 := by
  cases l with
  | nil => simp [Lib.join_nil]
  | cons p r =>
    have hpl := L_ptLen (hl p (by simp))
    have hr := L_joinTailLen r (fun q hq => hl q (by simp [hq]))
    simp only [List.length_cons] at hn
    rw [List.map_cons, Lib.join_cons, List.length_append]
    omega

def D_mkPt (p : S116) : ByteArray := ⟨(D_ptL p).toArray⟩

theorem L_implItoa {n : Int} (h0 : -1000000 < n) (h : n < 1000000) : impl_decimal.f n = some ⟨(Lib.itoa n).toArray⟩ := by
  unfold impl_decimal.f
  rw [if_pos (by omega), if_pos (by omega)]

theorem L_mkSize (a : List UInt8) : (⟨a.toArray⟩ : ByteArray).size = a.length := by simp [ByteArray.size]

theorem L_mk (a b : List UInt8) : (⟨a.toArray⟩ : ByteArray) ++ (⟨b.toArray⟩ : ByteArray) = ⟨(a ++ b).toArray⟩ := by
  apply ByteArray.ext
  simp [ByteArray.data_append]

theorem L_implCurveLoop (l : List S116) (hl : D_okPt l) (hn : l.length ≤ 12) (d : Nat) : ∀ (k : Nat) (W : List ByteArray) (i : Int), 0 ≤ i → i + d = l.length → d < k → (W.length : Int) = i →
    (Lib.join ((W ++ (l.drop i.toNat).map D_mkPt).map (·.data.toList)) [32]).length ≤ 1000 →
    impl_curveText.l0 k W l (l.length : Int) i = some ⟨(Lib.join ((W ++ (l.drop i.toNat).map D_mkPt).map (·.data.toList)) [32]).toArray⟩ := by
  induction d with
  | zero =>
    intro k W i h0 hd hk hW hj
    obtain ⟨k, rfl⟩ : ∃ m, k = m + 1 := ⟨k - 1, by omega⟩
    rw [List.drop_eq_nil_of_le (by omega), List.map_nil, List.append_nil] at hj ⊢
    rw [impl_curveText.l0, if_neg (by omega)]
    unfold strings_Join.f
    rw [show (⟨#[32]⟩ : ByteArray).data.toList = [32] from rfl, if_pos (by omega), if_pos (by omega)]
    rfl
  | succ d ih =>
    intro k W i h0 hd hk hW hj
    obtain ⟨k, rfl⟩ : ∃ m, k = m + 1 := ⟨k - 1, by omega⟩
    obtain ⟨hi, e⟩ := L_rdP (l := l) (i := i) (by omega) (by omega)
    have h1 := hl _ (List.getElem_mem hi)
    rw [← e] at h1
    have hpl := L_ptLen h1
    have s1 := L_itoaLen (n := (rd_T116 l i).f0) (by omega) (by omega)
    have s2 := L_itoaLen (n := (rd_T116 l i).f1) (by omega) (by omega)
    have ew : W ++ (l.drop i.toNat).map D_mkPt = (W ++ [D_mkPt (rd_T116 l i)]) ++ (l.drop (i + 1).toNat).map D_mkPt := by
      rw [List.drop_eq_getElem_cons hi, ← e, show (i + 1).toNat = i.toNat + 1 by omega]
      simp
    rw [ew] at hj ⊢
    rw [impl_curveText.l0, if_pos (by omega), if_pos h0, if_pos (by omega), L_w (x := (rd_T116 l i).f0) (by omega), L_w (x := (rd_T116 l i).f1) (by omega), L_implItoa (n := (rd_T116 l i).f0) (by omega) (by omega), L_implItoa (n := (rd_T116 l i).f1) (by omega) (by omega)]
    simp only [Option.bind_some]
    rw [L_mkSize, if_pos (by omega), show (⟨#[58]⟩ : ByteArray) = ⟨([58] : List UInt8).toArray⟩ from rfl, L_mk, L_mkSize, L_mkSize, if_pos (by simp only [List.length_append, List.length_cons, List.length_nil]; omega), if_pos (by omega), L_mk, L_w (x := i + 1) (by omega)]
    exact ih k _ (i + 1) (by omega) (by omega) (by omega) (by rw [List.length_append]; simp only [List.length_cons, List.length_nil]; omega) hj

theorem L_implCurveText (l : List S116) (hl : D_okPt l) (hn : l.length ≤ 12) (h1 : 1 ≤ l.length) {k : Nat} (hk : l.length + 8 ≤ k) : impl_curveText.f k l = some ⟨(Lib.join (l.map D_ptL) [32]).toArray⟩ := by
  have hb := L_joinLen l hl hn
  have e : (([] : List ByteArray) ++ (l.drop (0 : Int).toNat).map D_mkPt).map (·.data.toList) = l.map D_ptL := by
    simp [D_mkPt, Function.comp_def]
  unfold impl_curveText.f
  rw [L_implCurveLoop l hl hn l.length k [] 0 (by omega) (by omega) (by omega) rfl (by rw [e]; omega), e]

theorem L_okPt {l : List S116} (h : D_curve l = true) : D_okPt l := by
  intro p hp
  obtain ⟨j, hj, e⟩ := List.getElem_of_mem hp
  have := (L_curveFacts h).2 (j : Int) (by omega) (by omega)
  obtain ⟨hi, e2⟩ := L_rdP (l := l) (i := (j : Int)) (by omega) (by omega)
  have e3 : rd_T116 l (j : Int) = p := by rw [e2, ← e]; simp
  unfold D_px D_py at this
  rw [e3] at this
  exact this.1

theorem L_joinGlue : ∀ (L : List (List UInt8)), Lib.join L [32] = D_glue 32 L
  | [] => rfl
  | [x] => by rw [Lib.join_one, D_glue]
  | x :: y :: t => by
    have h := L_joinGlue (y :: t)
    rw [Lib.join_cons] at h ⊢
    rw [D_glue, ← h]
    simp [Lib.joinTail]

theorem L_implCurveRead (s : ByteArray) (hs : s.size ≤ 1048576) : impl_ReadCurve.f s = some (match D_readPts (D_readWords13 s) [] with | some o => if D_curve o = true ∧ s.data.toList = D_crv o then (o, 0) else ([], 5) | none => ([], 5)) := by
  have hw : (D_readWords13 s).length ≤ 13 := by
    unfold D_readWords13
    have := Lib.splitB_length_le (⟨#[32]⟩ : ByteArray) 0 (min 13 (s.size + 1) - 1) s
    omega
  unfold impl_ReadCurve.f
  rw [if_pos hs]
  cases hq : D_readPts (D_readWords13 s) [] with
  | none => rfl
  | some o =>
    obtain ⟨hB, hl⟩ := L_readPtsB _ _ _ hq (fun x hx => by simp at hx)
    simp only [List.length_nil] at hl
    simp only
    rw [L_implCurve o hB (by omega) (by omega)]
    simp only [Option.bind_some]
    by_cases h : D_curve o = true
    · have hf := (L_curveFacts h).1
      rw [if_pos h, L_implCurveText o (L_okPt h) hf.2 hf.1 (by omega)]
      simp only [Option.bind_some]
      rw [L_joinGlue, Lib.toList_data, Lib.toList_data]
      simp only [List.toList_toArray]
      by_cases h2 : s.data.toList = D_crv o
      · rw [if_pos (show D_glue 32 (o.map D_ptL) = s.data.toList from h2.symm), if_pos ⟨h, h2⟩]
      · rw [if_neg (show ¬ D_glue 32 (o.map D_ptL) = s.data.toList from fun e => h2 e.symm), if_neg (fun e => h2 e.2)]
    · rw [if_neg h, if_neg (fun e => h e.1)]

theorem L_index0 (b : UInt8) : ∀ (x : List UInt8), b ∉ x → Lib.index x [b] = -1
  | [], _ => by simp [Lib.index]
  | c :: x, h => by
    have hc : ¬ b = c := fun e => h (by rw [e]; simp)
    have ih := L_index0 b x (fun e => h (List.mem_cons_of_mem _ e))
    rw [Lib.index, if_neg (by simp [List.isPrefixOf, hc]), ih, if_pos (by simp)]

/-- pieces with b between them -/
theorem L_splitKGlue (b : UInt8) : ∀ (L : List (List UInt8)) (k : Nat), L ≠ [] → (∀ x ∈ L, b ∉ x) → L.length ≤ k + 1 → Lib.splitK [b] 0 k (D_glue b L) = L
  | [], _, h, _, _ => absurd rfl h
  | [x], k, _, h, _ => by
    cases k with
    | zero => rfl
    | succ k => rw [D_glue, Lib.splitK, L_index0 b x (h x (by simp)), if_pos (by simp)]
  | x :: y :: t, k, _, h, hk => by
    obtain ⟨k, rfl⟩ : ∃ m, k = m + 1 := ⟨k - 1, by simp only [List.length_cons] at hk; omega⟩
    rw [D_glue, Lib.splitK, L_index1 b x _ (h x (by simp)), if_neg (by simp)]
    have e1 : (x ++ b :: D_glue b (y :: t)).take ((x.length : Int).toNat + 0) = x := by simp
    have e2 : (x ++ b :: D_glue b (y :: t)).drop ((x.length : Int).toNat + ([b] : List UInt8).length) = D_glue b (y :: t) := by
      rw [Int.toNat_natCast, List.drop_append, List.drop_eq_nil_of_le (by simp)]
      simp
    rw [e1, e2, L_splitKGlue b (y :: t) k (by simp) (fun z hz => h z (List.mem_cons_of_mem _ hz)) (by simp only [List.length_cons] at hk ⊢; omega)]

theorem L_crvNe {P : List S116} (h : D_curve P = true) : P ≠ [] := by
  have := (L_curveFacts h).1
  intro e
  rw [e] at this
  simp at this

theorem L_words13 (s : ByteArray) (P : List S116) (hP : D_curve P = true) (e : s.data.toList = D_crv P) : D_readWords13 s = (P.map D_ptL).map D_mk := by
  have hsz := Lib.size_eq s
  have hl2 := (L_curveFacts hP).1
  have hlen : ∀ L : List (List UInt8), L.length ≤ (D_glue 32 L).length + 1 := by
    intro L
    induction L with
    | nil => simp
    | cons x t ih =>
      cases t with
      | nil => simp
      | cons y t =>
        rw [D_glue, List.length_append]
        simp only [List.length_cons] at ih ⊢
        omega
  have h1 := hlen (P.map D_ptL)
  unfold D_readWords13
  refine L_mapMk _ _ ?_
  rw [Lib.splitB_data, e, show (⟨#[32]⟩ : ByteArray).data.toList = [32] from rfl]
  unfold D_crv at e ⊢
  rw [e] at hsz
  rw [List.length_map] at h1
  exact L_splitKGlue 32 _ _ (by simpa using L_crvNe hP) (L_ptsNo ⟨Or.inl (by decide), by decide, by decide⟩) (by rw [List.length_map]; omega)

theorem L_cut1 (b : UInt8) (x r : List UInt8) (h : b ∉ x) : Lib.cut (x ++ b :: r) [b] = (x, r, true) := by
  unfold Lib.cut
  rw [L_index1 b x r h, if_pos (by omega)]
  have e1 : (x ++ b :: r).take ((x.length : Int).toNat) = x := by simp
  have e2 : (x ++ b :: r).drop ((x.length : Int).toNat + ([b] : List UInt8).length) = r := by
    rw [Int.toNat_natCast, List.drop_append, List.drop_eq_nil_of_le (by simp)]
    simp
  rw [e1, e2]

theorem L_mkData (x : List UInt8) : (D_mk x).data.toList = x := rfl

theorem L_decNe (n : Nat) : Lib.decDigits n ≠ [] := by
  rw [Lib.decDigits]
  split <;> simp

theorem L_parseUSnoc (M : Nat) : ∀ (l : List UInt8) (c : UInt8) (a m : Nat), Lib.parseUintM M a l = .ok m → 48 ≤ c.toNat → c.toNat ≤ 57 → m < 1844674407370955162 → m * 10 + (c.toNat - 48) ≤ M → Lib.parseUintM M a (l ++ [c]) = .ok (m * 10 + (c.toNat - 48))
  | [], c, a, m, h, h1, h2, h3, h4 => by
    simp only [Lib.parseUintM] at h
    injection h with h
    subst h
    simp only [List.nil_append, Lib.parseUintM]
    rw [if_pos ⟨h1, h2⟩, if_neg (by omega), if_neg (by omega)]
  | x :: l, c, a, m, h, h1, h2, h3, h4 => by
    rw [List.cons_append]
    simp only [Lib.parseUintM] at h ⊢
    split at h
    · rename_i hx
      rw [if_pos hx]
      split at h
      · cases h
      · rename_i h5
        rw [if_neg h5]
        split at h
        · cases h
        · rename_i h6
          rw [if_neg h6]
          exact L_parseUSnoc M l c _ m h h1 h2 h3 h4
    · cases h

theorem L_parseUDec (M n : Nat) (h : n ≤ M) (h2 : n < 18446744073709551616) : Lib.parseUintM M 0 (Lib.decDigits n) = .ok n := by
  induction n using Nat.strongRecOn with
  | _ n ih =>
    rw [Lib.decDigits]
    split
    · rename_i hn
      have e : (UInt8.ofNat (48 + n)).toNat = 48 + n := by rw [UInt8.toNat_ofNat']; omega
      simp only [Lib.parseUintM, e]
      rw [if_pos (by omega), if_neg (by omega), if_neg (by omega)]
      congr 1; omega
    · rename_i hn
      have e : (UInt8.ofNat (48 + n % 10)).toNat = 48 + n % 10 := by rw [UInt8.toNat_ofNat']; omega
      rw [L_parseUSnoc M _ _ 0 (n / 10) (ih (n / 10) (by omega) (by omega) (by omega)) (by omega) (by omega) (by omega) (by omega), e]
      congr 1; omega

/-- the number that digits say, behind a -/
def D_num : List UInt8 → Nat → Option Nat
  | [], a => some a
  | c :: r, a => if 48 ≤ c.toNat ∧ c.toNat ≤ 57 then D_num r (10 * a + (c.toNat - 48)) else none

theorem L_numSnoc : ∀ (l : List UInt8) (c : UInt8) (a m : Nat), D_num l a = some m → 48 ≤ c.toNat → c.toNat ≤ 57 → D_num (l ++ [c]) a = some (10 * m + (c.toNat - 48))
  | [], c, a, m, h, h1, h2 => by
    cases h
    simp only [List.nil_append, D_num]
    rw [if_pos ⟨h1, h2⟩]
  | x :: l, c, a, m, h, h1, h2 => by
    rw [D_num] at h
    split at h
    · rename_i hx
      rw [List.cons_append, D_num, if_pos hx]
      exact L_numSnoc l c _ m h h1 h2
    · cases h

theorem L_numDec (n : Nat) : D_num (Lib.decDigits n) 0 = some n := by
  induction n using Nat.strongRecOn with
  | _ n ih =>
    rw [Lib.decDigits]
    split
    · rename_i h
      have e : (UInt8.ofNat (48 + n)).toNat = 48 + n := by rw [UInt8.toNat_ofNat']; omega
      simp only [D_num, e]
      rw [if_pos (by omega)]
      congr 1; omega
    · rename_i h
      have e : (UInt8.ofNat (48 + n % 10)).toNat = 48 + n % 10 := by rw [UInt8.toNat_ofNat']; omega
      rw [L_numSnoc _ _ 0 (n / 10) (ih (n / 10) (by omega)) (by omega) (by omega), e]
      congr 1; omega

theorem L_decHead (n : Nat) : ∃ c r, Lib.decDigits n = c :: r ∧ ¬ (c.toNat = 48 ∧ r ≠ []) := by
  induction n using Nat.strongRecOn with
  | _ n ih =>
    rw [Lib.decDigits]
    split
    · exact ⟨_, [], rfl, fun h => h.2 rfl⟩
    · rename_i h
      obtain ⟨c, r, e, hz⟩ := ih (n / 10) (by omega)
      refine ⟨c, r ++ [UInt8.ofNat (48 + n % 10)], by rw [e]; rfl, fun hh => ?_⟩
      have hr : r = [] := Classical.byContradiction fun e2 => hz ⟨hh.1, e2⟩
      subst hr
      have h1 := L_numDec (n / 10)
      rw [e, D_num, hh.1] at h1
      simp only [D_num] at h1
      injection h1 with h1
      omega

theorem L_parseDec (B n : Nat) (hB : n < 2 ^ (B - 1)) (hM : 2 ^ (B - 1) ≤ 2 ^ B - 1) (h2 : n < 18446744073709551616) : Lib.parseIntB B (Lib.decDigits n) = .ok (n : Int) := by
  have hu : Lib.parseUintB B (Lib.decDigits n) = .ok n := by
    unfold Lib.parseUintB
    rw [if_neg (L_decNe n)]
    exact L_parseUDec _ n (by omega) h2
  obtain ⟨c, r, e, _⟩ := L_decHead n
  have hc := L_decDig n c (by rw [e]; simp)
  rw [e] at hu ⊢
  rw [Lib.parseIntB_plain B c r (by omega) (by omega), hu]
  simp only [Lib.signlessC]
  rw [if_neg (by omega)]

theorem L_parseItoa (B : Nat) (n : Int) (h0 : -((2 ^ (B - 1) : Nat) : Int) ≤ n) (hB : n < ((2 ^ (B - 1) : Nat) : Int)) (hM : 2 ^ (B - 1) ≤ 2 ^ B - 1) (h2 : 2 ^ (B - 1) < 18446744073709551616) : Lib.parseIntB B (Lib.itoa n) = .ok n := by
  unfold Lib.itoa
  by_cases hn : n < 0
  · have hu : Lib.parseUintB B (Lib.decDigits n.natAbs) = .ok n.natAbs := by
      unfold Lib.parseUintB
      rw [if_neg (L_decNe _)]
      exact L_parseUDec _ _ (by omega) (by omega)
    rw [if_pos hn, Lib.parseIntB_minus, hu]
    simp only [Lib.signedC]
    rw [if_neg (by omega)]
    congr 1; omega
  · rw [if_neg hn, L_parseDec B n.toNat (by omega) hM (by omega)]
    congr 1; omega

theorem L_readPoint {p : S116} (h : (-200 ≤ p.f0 ∧ p.f0 ≤ 200) ∧ 0 ≤ p.f1 ∧ p.f1 ≤ 400) : D_readPoint (D_mk (D_ptL p)) = some p := by
  have hp : (2 : Nat) ^ (16 - 1) = 32768 := by decide
  have h2 : (58 : UInt8) ∉ Lib.itoa p.f0 := L_itoaNo ⟨Or.inr (by decide), by decide⟩
  have hc : Lib.cut (D_ptL p) [58] = (Lib.itoa p.f0, Lib.itoa p.f1, true) := by
    unfold D_ptL
    rw [List.append_assoc, List.singleton_append]
    exact L_cut1 58 _ _ h2
  unfold D_readPoint
  rw [L_mkData, hc]
  simp only [L_parseItoa 16 p.f0 (by omega) (by omega) (by decide) (by decide), L_parseItoa 16 p.f1 (by omega) (by omega) (by decide) (by decide)]
  rw [L_w16 (by omega), L_w16 (by omega)]

theorem L_readPts : ∀ (P o : List S116), D_okPt P → D_readPts ((P.map D_ptL).map D_mk) o = some (o ++ P)
  | [], o, _ => by simp [D_readPts]
  | p :: P, o, h => by
    rw [List.map_cons, List.map_cons, D_readPts, L_readPoint (h p (by simp))]
    simp only
    rw [L_readPts P (o ++ [p]) (fun q hq => h q (List.mem_cons_of_mem _ hq))]
    simp

theorem L_implCurveOf (s : ByteArray) (hs : s.size ≤ 1048576) (P : List S116) (hP : D_curve P = true) (e : s.data.toList = D_crv P) : impl_ReadCurve.f s = some (P, 0) := by
  rw [L_implCurveRead s hs, L_words13 s P hP e, L_readPts P [] (L_okPt hP)]
  simp only [List.nil_append]
  rw [if_pos ⟨hP, e⟩]

theorem L_cut0 (b : UInt8) (x : List UInt8) (h : b ∉ x) : Lib.cut x [b] = (x, [], false) := by
  unfold Lib.cut
  rw [L_index0 b x h, if_neg (by omega)]

theorem L_hexUN (u : Nat) (hu : u < 18446744073709551616) : ∀ n, D_hexU (u / 16 ^ n) (D_hexN u n) = some (some u)
  | 0 => by simp [D_hexN, D_hexU]
  | n + 1 => by
    have h1 : u / 16 ^ (n + 1) = u / 16 ^ n / 16 := by rw [Nat.pow_succ, ← Nat.div_div_eq_div_mul]
    have h2 : u / 16 ^ n ≤ u := Nat.div_le_self _ _
    rw [D_hexN, (L_nibC (by omega)).2.1, if_neg (by omega), show u / 16 ^ (n + 1) * 16 + u / 16 ^ n % 16 = u / 16 ^ n by omega]
    exact L_hexUN u hu n

theorem L_hexOfN {u : Nat} (h : u < 18446744073709551616) : D_hexOf (D_hexN u 16) = some (some u) := by
  have h3 : (16 : Nat) ^ 16 = 18446744073709551616 := by decide
  have h2 := L_hexUN u h 16
  rw [h3, show u / 18446744073709551616 = 0 by omega] at h2
  unfold D_hexOf
  rw [if_neg (by rw [D_hexN]; simp), h2]

theorem L_readSteps : ∀ (S o : List S89), (∀ s ∈ S, (0 ≤ s.f0 ∧ s.f0 < 18446744073709551616) ∧ 0 ≤ s.f1 ∧ s.f1 ≤ 36) → D_readSteps ((S.map D_sl ++ [[]]).map D_mk) o = some (o ++ S)
  | [], o, _ => by
    simp only [List.map_nil, List.nil_append, List.map_cons, D_readSteps]
    rw [L_mkData, L_cut0 32 [] (by simp), if_neg (by simp)]
    simp
  | s :: S, o, h => by
    have h1 := h s (by simp)
    have hc : Lib.cut (D_sl s) [32] = (D_hexN s.f0.toNat 16, Lib.decDigits s.f1.toNat, true) := L_cut1 32 _ _ (L_hexNNo _ 16).1
    have hp : (2 : Nat) ^ (8 - 1) = 128 := by decide
    rw [List.map_cons, List.cons_append, List.map_cons, D_readSteps, L_mkData, hc, if_pos rfl]
    simp only [L_hexOfN (u := s.f0.toNat) (by omega), L_parseDec 8 s.f1.toNat (by omega) (by decide) (by omega)]
    rw [L_w8 (by omega), show ((s.f1.toNat : Nat) : Int) = s.f1 by omega, show ((s.f0.toNat : Nat) : Int) = s.f0 by omega, L_readSteps S _ (fun q hq => h q (List.mem_cons_of_mem _ hq))]
    simp

/-- a fixed number of digits to the base 16 -/
def D_hexFix : Nat → Int → List Int → List Int
  | 0, _, l => l
  | d + 1, u, l => D_hexFix d (u / 16) (D_hexDig (u % 16) :: l)

def D_stL (s : S89) : List UInt8 := (D_hexFix 16 s.f0 []).map (fun n => UInt8.ofNat n.toNat) ++ [32] ++ Lib.itoa s.f1 ++ [10]

theorem L_hexFixLen : ∀ (d : Nat) (u : Int) (l : List Int), (D_hexFix d u l).length = d + l.length
  | 0, _, _ => by simp [D_hexFix]
  | d + 1, u, l => by simp only [D_hexFix]; rw [L_hexFixLen d]; simp only [List.length_cons]; omega

theorem L_stLen {s : S89} (h : 0 ≤ s.f1 ∧ s.f1 ≤ 36) : (D_stL s).length ≤ 30 := by
  have b := L_itoaLen (n := s.f1) (by omega) (by omega)
  unfold D_stL
  simp only [List.length_append, List.length_cons, List.length_nil, List.length_map, L_hexFixLen]
  omega

theorem L_hexFix0 : ∀ (d : Nat) (l : List Int), D_hexFix d 0 l = List.replicate d 48 ++ l
  | 0, _ => rfl
  | d + 1, l => by
    simp only [D_hexFix]
    rw [show (0 : Int) / 16 = 0 from rfl, show D_hexDig (0 % 16) = 48 from rfl, L_hexFix0 d, List.replicate_succ']
    simp

theorem L_hexPad : ∀ (d : Nat) (u : Int) (l : List Int), 0 ≤ u → u < 16 ^ (d + 1) → (D_hexOn d u l).length ≤ d + 1 + l.length ∧ D_hexFix (d + 1) u l = List.replicate (d + 1 + l.length - (D_hexOn d u l).length) 48 ++ D_hexOn d u l
  | 0, u, l, h0, h1 => by
    simp only [D_hexFix, D_hexOn]
    rw [show u % 16 = u by omega]
    simp only [List.length_cons]
    refine ⟨by omega, ?_⟩
    rw [show 0 + 1 + l.length - (l.length + 1) = 0 by omega]
    rfl
  | d + 1, u, l, h0, h1 => by
    have hpw : (16 : Int) ^ (d + 1 + 1) = 16 ^ (d + 1) * 16 := Int.pow_succ ..
    simp only [D_hexOn]
    by_cases h : 16 ≤ u
    · rw [if_pos h]
      obtain ⟨a, b⟩ := L_hexPad d (u / 16) (D_hexDig (u % 16) :: l) (by omega) (by omega)
      simp only [List.length_cons] at a b
      refine ⟨by omega, ?_⟩
      have e : D_hexFix (d + 1 + 1) u l = D_hexFix (d + 1) (u / 16) (D_hexDig (u % 16) :: l) := rfl
      rw [e, b, show d + 1 + (l.length + 1) = d + 1 + 1 + l.length by omega]
    · rw [if_neg h]
      have e : D_hexFix (d + 1 + 1) u l = D_hexFix (d + 1) (u / 16) (D_hexDig (u % 16) :: l) := rfl
      rw [e, show u / 16 = 0 by omega, show u % 16 = u by omega, L_hexFix0]
      simp only [List.length_cons]
      refine ⟨by omega, ?_⟩
      rw [show d + 1 + 1 + l.length - (l.length + 1) = d + 1 by omega]

theorem L_strMk (xs : List Int) : strOfNums xs = ⟨(xs.map fun n => UInt8.ofNat n.toNat).toArray⟩ := rfl

theorem L_rep (n : Nat) : Lib.repeatL [48] n = (List.replicate n (48 : Int)).map fun z => UInt8.ofNat z.toNat := by
  induction n with
  | zero => rfl
  | succ n ih => rw [Lib.repeatL, ih, List.replicate_succ]; rfl

theorem L_implHex {m : Int} (h0 : 0 ≤ m) (h1 : m < 18446744073709551616) : ∃ x y : ByteArray, strconv_FormatUint.f m 16 = some x ∧ strings_Repeat.f (⟨#[48]⟩ : ByteArray) (wrap64 (16 - (x.size : Int))) = some y ∧ y ++ x = strOfNums (D_hexFix 16 m []) ∧ x.size ≤ 16 ∧ y.size ≤ 16 := by
  obtain ⟨hl, he⟩ := L_hexPad 15 m [] h0 h1
  simp only [List.length_nil, Nat.add_zero, Nat.reduceAdd] at hl he
  have hx : (strOfNums (D_hex m)).size = (D_hexOn 15 m []).length := strOfNums_size _
  refine ⟨strOfNums (D_hex m), ⟨(Lib.repeatL [48] (16 - (D_hexOn 15 m []).length)).toArray⟩, ?_, ?_, ?_, by rw [hx]; exact hl, ?_⟩
  · unfold strconv_FormatUint.f
    rw [if_pos rfl, if_pos h0, if_pos h1]
  · unfold strings_Repeat.f
    rw [hx, L_w (x := 16 - ((D_hexOn 15 m []).length : Int)) (by omega), if_pos (by omega), if_pos (by omega), show (16 - ((D_hexOn 15 m []).length : Int)).toNat = 16 - (D_hexOn 15 m []).length by omega, show (⟨#[48]⟩ : ByteArray).size = 1 from rfl, if_pos (by omega)]
  · rw [L_strMk, L_strMk, L_mk, he, L_rep, ← List.map_append]
    rfl
  · rw [L_mkSize, Lib.repeatL_length]
    simp only [List.length_cons, List.length_nil]
    omega

theorem L_implLogLoop (l : List S89) (hl : D_steps l) (hu : D_u64s l) (d : Nat) : ∀ (k : Nat) (a : List UInt8) (i : Int), 0 ≤ i → i + d = l.length → d < k → (a.length : Int) ≤ 400 + 40 * i →
    impl_logText.l0 k ⟨a.toArray⟩ l (l.length : Int) i = some ⟨(a ++ ((l.drop i.toNat).map D_stL).flatten).toArray⟩ := by
  have hn := hl.2
  induction d with
  | zero =>
    intro k a i h0 hd hk ha
    obtain ⟨k, rfl⟩ : ∃ m, k = m + 1 := ⟨k - 1, by omega⟩
    rw [impl_logText.l0, if_neg (by omega), List.drop_eq_nil_of_le (by omega)]
    simp
  | succ d ih =>
    intro k a i h0 hd hk ha
    obtain ⟨k, rfl⟩ : ∃ m, k = m + 1 := ⟨k - 1, by omega⟩
    obtain ⟨hi, e⟩ := L_rdS (l := l) (i := i) (by omega) (by omega)
    have h1 := hl.1 _ (List.getElem_mem hi)
    have h2 := hu _ (List.getElem_mem hi)
    rw [← e] at h1 h2
    have hpl := L_stLen h1
    have hsz : (strOfNums (D_hexFix 16 (rd_T89 l i).f0 [])).size = 16 := by rw [strOfNums_size, L_hexFixLen]; rfl
    have s2 := L_itoaLen (n := (rd_T89 l i).f1) (by omega) (by omega)
    obtain ⟨x, y, ex, ey, exy, hx, hy⟩ := L_implHex h2.1 h2.2
    rw [impl_logText.l0, if_pos (by omega), if_pos (by omega), if_pos (by omega), L_w (x := (rd_T89 l i).f1) (by omega), ex]
    simp only [Option.bind_some]
    rw [ey]
    simp only [Option.bind_some]
    rw [if_pos (by omega), exy, hsz, if_pos (by omega), L_implItoa (n := (rd_T89 l i).f1) (by omega) (by omega)]
    simp only [Option.bind_some]
    have hs2 : (⟨(Lib.itoa (rd_T89 l i).f1).toArray⟩ : ByteArray).size ≤ 8 := by rw [L_mkSize]; exact s2
    have sp : (⟨#[32]⟩ : ByteArray).size = 1 := rfl
    have nl : (⟨#[10]⟩ : ByteArray).size = 1 := rfl
    have hst : ((strOfNums (D_hexFix 16 (rd_T89 l i).f0 []) ++ (⟨#[32]⟩ : ByteArray)) ++ (⟨(Lib.itoa (rd_T89 l i).f1).toArray⟩ : ByteArray)) ++ (⟨#[10]⟩ : ByteArray) = ⟨(D_stL (rd_T89 l i)).toArray⟩ := by
      rw [L_strMk, show (⟨#[32]⟩ : ByteArray) = ⟨([32] : List UInt8).toArray⟩ from rfl, show (⟨#[10]⟩ : ByteArray) = ⟨([10] : List UInt8).toArray⟩ from rfl, L_mk, L_mk, L_mk]
      rfl
    rw [if_pos (by rw [ByteArray.size_append]; omega), if_pos (by rw [ByteArray.size_append, ByteArray.size_append]; omega), hst, L_mkSize, L_mkSize, if_pos (by omega), L_mk, L_w (x := i + 1) (by omega)]
    rw [ih k _ (i + 1) (by omega) (by omega) (by omega) (by rw [List.length_append]; omega), List.drop_eq_getElem_cons hi, ← e, show (i + 1).toNat = i.toNat + 1 by omega]
    simp

/-- the digits from place n on downward -/
def D_hexDown (u : Int) : Nat → List Int
  | 0 => []
  | n + 1 => D_hexDig (u / 16 ^ n % 16) :: D_hexDown u n

theorem L_hexDown : ∀ (n : Nat) (u : Int) (l : List Int), 0 ≤ u → D_hexFix n u l = D_hexDown u n ++ l
  | 0, _, _, _ => rfl
  | n + 1, u, l, h0 => by
    have key : ∀ m : Nat, D_hexDown (u / 16) m ++ [D_hexDig (u % 16)] = D_hexDown u (m + 1) := by
      intro m
      induction m with
      | zero => simp [D_hexDown]
      | succ m ih =>
        rw [show D_hexDown u (m + 1 + 1) = D_hexDig (u / 16 ^ (m + 1) % 16) :: D_hexDown u (m + 1) from rfl, ← ih]
        rw [show D_hexDown (u / 16) (m + 1) = D_hexDig (u / 16 / 16 ^ m % 16) :: D_hexDown (u / 16) m from rfl]
        rw [show u / 16 / 16 ^ m = u / 16 ^ (m + 1) by rw [Int.ediv_ediv_of_nonneg (by omega), Int.pow_succ, Int.mul_comm]]
        rfl
    simp only [D_hexFix]
    rw [L_hexDown n _ _ (by omega), ← key n]
    simp

theorem L_hexNDown (u : Nat) : ∀ n, (D_hexDown (u : Int) n).map (fun z => UInt8.ofNat z.toNat) = D_hexN u n
  | 0 => rfl
  | n + 1 => by
    rw [D_hexDown, List.map_cons, L_hexNDown u n, D_hexN]
    unfold D_hexC
    rw [show (u : Int) / 16 ^ n % 16 = ((u / 16 ^ n % 16 : Nat) : Int) by push_cast; rfl]

theorem L_hexL (u : Nat) : (D_hexFix 16 (u : Int) []).map (fun n => UInt8.ofNat n.toNat) = D_hexN u 16 := by
  rw [L_hexDown 16 _ [] (by omega), List.append_nil, L_hexNDown]

theorem L_itoaPos {n : Int} (h : 0 ≤ n) : Lib.itoa n = Lib.decDigits n.toNat := by unfold Lib.itoa; rw [if_neg (by omega)]

theorem L_stSl {s : S89} (h : 0 ≤ s.f0) (h1 : 0 ≤ s.f1) : D_stL s = D_sl s ++ [10] := by
  unfold D_stL D_sl
  have := L_hexL s.f0.toNat
  rw [show ((s.f0.toNat : Nat) : Int) = s.f0 by omega] at this
  rw [this, L_itoaPos h1]
  simp

theorem L_logFlat (P : List S116) : ∀ (S : List S89), (∀ s ∈ S, 0 ≤ s.f0 ∧ 0 ≤ s.f1) → (S.map D_stL).flatten = D_lined 10 (S.map D_sl)
  | [], _ => rfl
  | s :: S, h => by
    have h1 := h s (by simp)
    rw [List.map_cons, List.flatten_cons, List.map_cons, D_lined, L_stSl h1.1 h1.2, L_logFlat P S (fun q hq => h q (List.mem_cons_of_mem _ hq))]
    simp

theorem L_implLogTL (P : List S116) (S : List S89) (h : D_okLog P S) {k : Nat} (hk : 60 ≤ k) : impl_logText.f k P S = some (D_mk (D_TL P S)) := by
  have hf := (L_curveFacts h.1).1
  have hb := L_joinLen P (L_okPt h.1) hf.2
  have hS := h.2.1.2
  unfold impl_logText.f
  rw [L_implCurveText P (L_okPt h.1) hf.2 hf.1 (by omega)]
  simp only [Option.bind_some]
  rw [L_mkSize, if_pos (by omega), show (⟨#[10]⟩ : ByteArray) = ⟨([10] : List UInt8).toArray⟩ from rfl, L_mk,
    L_implLogLoop S h.2.1 h.2.2 S.length k _ 0 (by omega) (by omega) (by omega) (by simp only [List.length_append, List.length_cons, List.length_nil]; omega)]
  simp only [Int.toNat_zero, List.drop_zero]
  rw [L_logFlat P S (fun s hs => ⟨(h.2.2 s hs).1, (h.2.1.1 s hs).1⟩), L_joinGlue]
  unfold D_TL D_crv D_mk
  rw [D_lined]
  simp

theorem L_mkToList (x : List UInt8) : (D_mk x).toList = x := by rw [Lib.toList_data]; rfl

theorem L_implLogOf (s : ByteArray) (hs : s.size ≤ 1048576) (P : List S116) (S : List S89) (h : D_okLog P S) (e : s.data.toList = D_TL P S) : impl_ReadLog.f s = some (P, S, 0) := by
  have hz := L_lineSz s hs
  have hS : ∀ s ∈ S, (0 ≤ s.f0 ∧ s.f0 < 18446744073709551616) ∧ 0 ≤ s.f1 ∧ s.f1 ≤ 36 := fun s hs => ⟨h.2.2 s hs, h.2.1.1 s hs⟩
  have hB : D_i8s S := fun x hx => by have := (hS x hx).2; omega
  unfold impl_ReadLog.f
  rw [L_lines33 s P S h e] at hz ⊢
  rw [List.map_cons, List.headD_cons] at hz
  rw [if_pos hs, List.map_cons, List.headD_cons, L_implCurveOf (D_mk (D_crv P)) hz P h.1 (L_mkData _)]
  simp only [Option.bind_some, if_true, List.drop_succ_cons, List.drop_zero]
  rw [L_readSteps S [] hS]
  simp only [List.nil_append]
  rw [L_implSteps S hB]
  simp only [Option.bind_some]
  rw [if_pos (decide_eq_true h.2.1), L_implLogTL P S h (by omega)]
  simp only [Option.bind_some]
  rw [L_mkToList, Lib.toList_data, if_pos e.symm]

def D_splitOn (b : UInt8) : List UInt8 → List UInt8 → List (List UInt8)
  | acc, [] => [acc]
  | acc, c :: r => if c = b then acc :: D_splitOn b [] r else D_splitOn b (acc ++ [c]) r

def D_unhexL : List UInt8 → Nat → Option Nat
  | [], a => some a
  | c :: r, a => match D_nib c with | some d => D_unhexL r (16 * a + d) | none => none

def D_number : List UInt8 → Option Nat
  | [] => none
  | c :: r => if 9 < r.length + 1 then none else if c.toNat = 48 ∧ r ≠ [] then none else D_num (c :: r) 0

def D_stOf (x : List UInt8) : Option S89 := match D_splitOn 32 [] x with
  | [a, b] => (match (if a.length = 16 then D_unhexL a 0 else none) with
    | some u => (match D_number b with
      | some m => if m ≤ 36 then some ⟨(u : Int), (m : Int)⟩ else none
      | none => none)
    | none => none)
  | _ => none

def D_rdSts : List (List UInt8) → List S89 → Option (List S89)
  | [], o => some o
  | x :: t, o => match D_stOf x with | some p => D_rdSts t (o ++ [p]) | none => none

theorem L_mkExt (s : ByteArray) (a b : Nat) : s.extract a b = D_mk ((s.data.toList.drop a).take (b - a)) := by
  rw [← Lib.extract_data, L_mkList]

theorem L_btAt (s : ByteArray) (i : Nat) (h : i < s.data.toList.length) : bt s (i : Int) = ((s.data.toList[i]'h).toNat : Int) := by
  have hs : i < s.size := by rw [Lib.size_eq]; exact h
  unfold bt
  rw [dif_pos (by rw [Int.toNat_natCast]; exact hs)]
  rfl

theorem L_splitLoop (s : ByteArray) (b : UInt8) (hs : s.size ≤ 1048576) (d : Nat) : ∀ (k : Nat) (out : List ByteArray) (beg i : Nat), i + d = s.size → beg ≤ i → d < k → out.length ≤ i →
    spec_l01Split.l0 k s (b.toNat : Int) out (beg : Int) (i : Int) = some (out ++ (D_splitOn b ((s.data.toList.drop beg).take (i - beg)) (s.data.toList.drop i)).map D_mk) := by
  have hsz := Lib.size_eq s
  induction d with
  | zero =>
    intro k out beg i hi hb hk ho
    obtain ⟨k, rfl⟩ : ∃ m, k = m + 1 := ⟨k - 1, by omega⟩
    rw [spec_l01Split.l0, if_neg (by omega), if_pos (by omega), if_pos (by omega), if_pos (by omega), List.drop_eq_nil_of_le (by omega : s.data.toList.length ≤ i), D_splitOn, L_mkExt, show i = s.size by omega]
    simp
  | succ d ih =>
    intro k out beg i hi hb hk ho
    obtain ⟨k, rfl⟩ : ∃ m, k = m + 1 := ⟨k - 1, by omega⟩
    have hlt : i < s.data.toList.length := by omega
    rw [spec_l01Split.l0, if_pos (by omega), if_pos (by omega), L_btAt s i hlt, List.drop_eq_getElem_cons hlt, L_w (x := (i : Int) + 1) (by omega)]
    by_cases hc : s.data.toList[i] = b
    · rw [if_pos (by rw [hc]), if_pos (by omega), if_pos (by omega), if_pos (by omega), if_pos (by omega), D_splitOn, if_pos hc, show ((i : Int) + 1) = ((i + 1 : Nat) : Int) by omega, ih k _ (i + 1) (i + 1) (by omega) (by omega) (by omega) (by simp; omega), L_mkExt]
      simp
    · rw [if_neg (fun e => hc (UInt8.toNat_inj.1 (by omega))), D_splitOn, if_neg hc, show ((i : Int) + 1) = ((i + 1 : Nat) : Int) by omega, ih k out beg (i + 1) (by omega) (by omega) (by omega) (by omega)]
      have e : (s.data.toList.drop beg).take (i + 1 - beg) = (s.data.toList.drop beg).take (i - beg) ++ [s.data.toList[i]] := by
        rw [show i + 1 - beg = (i - beg) + 1 by omega, List.take_add_one]
        congr 1
        rw [List.getElem?_drop, show beg + (i - beg) = i by omega, List.getElem?_eq_getElem hlt]
        rfl
      rw [e]

theorem L_split (s : ByteArray) (b : Int) (hb : 0 ≤ b ∧ b < 256) (hs : s.size ≤ 1048576) {k : Nat} (hk : s.size < k) : spec_l01Split.f k s b = some ((D_splitOn (UInt8.ofNat b.toNat) [] s.data.toList).map D_mk) := by
  unfold spec_l01Split.f
  have e : ((UInt8.ofNat b.toNat).toNat : Int) = b := by rw [UInt8.toNat_ofNat']; omega
  have := L_splitLoop s (UInt8.ofNat b.toNat) hs s.size k [] 0 0 (by omega) (by omega) hk (by simp)
  rw [e] at this
  simpa using this

theorem L_splitOnLen (b : UInt8) : ∀ (l acc : List UInt8), (D_splitOn b acc l).length ≤ l.length + 1
  | [], acc => by simp [D_splitOn]
  | c :: r, acc => by
    unfold D_splitOn
    split
    · have := L_splitOnLen b r []; simp only [List.length_cons]; omega
    · have := L_splitOnLen b r (acc ++ [c]); simp only [List.length_cons]; omega

theorem L_splitOnNe (b : UInt8) : ∀ (l acc : List UInt8), D_splitOn b acc l ≠ []
  | [], acc => by simp [D_splitOn]
  | c :: r, acc => by
    unfold D_splitOn
    split
    · simp
    · exact L_splitOnNe b r _

theorem L_splitOnGlue (b : UInt8) : ∀ (l acc : List UInt8), D_glue b (D_splitOn b acc l) = acc ++ l
  | [], acc => by simp [D_splitOn, D_glue]
  | c :: r, acc => by
    unfold D_splitOn
    split
    · rename_i h
      have h1 := L_splitOnGlue b r []
      cases hq : D_splitOn b [] r with
      | nil => exact absurd hq (L_splitOnNe b r [])
      | cons x t =>
        rw [hq] at h1
        simp only [D_glue]
        rw [h1, h]
        simp
    · rw [L_splitOnGlue b r]; simp

theorem L_glueLen (b : UInt8) : ∀ (L : List (List UInt8)), ∀ x ∈ L, x.length ≤ (D_glue b L).length
  | [], x, h => by simp at h
  | [y], x, h => by rw [List.mem_singleton] at h; rw [h, D_glue]; exact Nat.le_refl _
  | y :: z :: t, x, h => by
    rw [D_glue, List.length_append, List.length_cons]
    rcases List.mem_cons.1 h with rfl | h
    · omega
    · have := L_glueLen b (z :: t) x h
      omega

def D_crvRes (x : Option (List S116)) : List S116 × Int := match x with | some o => (o, 0) | none => ([], 5)

def D_sign : List UInt8 → Option Int
  | [] => none
  | c :: r => if c.toNat = 45 then (match D_number r with | some m => if 0 < m then some (-(m : Int)) else none | none => none) else (match D_number (c :: r) with | some m => some (m : Int) | none => none)

def D_ptOf (x : List UInt8) : Option S116 := match D_splitOn 58 [] x with
  | [a, b] => (match D_sign a with
    | some u => (match D_number b with
      | some m => if (-200 ≤ u ∧ u ≤ 200) ∧ m ≤ 400 then some ⟨u, (m : Int)⟩ else none
      | none => none)
    | none => none)
  | _ => none

def D_rdPts : List (List UInt8) → List S116 → Option (List S116)
  | [], o => if D_curve o = true then some o else none
  | x :: t, o => match D_ptOf x with | some p => D_rdPts t (o ++ [p]) | none => none

theorem L_mkSz (x : List UInt8) : (D_mk x).size = x.length := by simp [D_mk, ByteArray.size]

theorem L_numLoop (s : ByteArray) (hs : s.size ≤ 9) (d : Nat) : ∀ (k m i : Nat), i + d = s.size → d < k → m < 10 ^ i →
    spec_l01Number.l0 k s (m : Int) (i : Int) = some (match D_num (s.data.toList.drop i) m with | some r => ((r : Int), true) | none => (0, false)) := by
  have hsz := Lib.size_eq s
  induction d with
  | zero =>
    intro k m i hi hk hm
    obtain ⟨k, rfl⟩ : ∃ m, k = m + 1 := ⟨k - 1, by omega⟩
    rw [spec_l01Number.l0, if_neg (by omega), List.drop_eq_nil_of_le (by omega)]
    rfl
  | succ d ih =>
    intro k m i hi hk hm
    obtain ⟨k, rfl⟩ : ∃ m, k = m + 1 := ⟨k - 1, by omega⟩
    have hlt : i < s.data.toList.length := by omega
    have hp : 10 ^ (i + 1) = 10 ^ i * 10 := Nat.pow_succ ..
    have hp9 : 10 ^ i ≤ 10 ^ 9 := Nat.pow_le_pow_right (by omega) (by omega)
    rw [spec_l01Number.l0, if_pos (by omega), if_pos (by omega), L_btAt s i hlt, List.drop_eq_getElem_cons hlt, D_num]
    generalize s.data.toList[i] = c
    by_cases h1 : c.toNat < 48
    · rw [if_pos (by omega), if_neg (by omega)]
    · by_cases h2 : 57 < c.toNat
      · rw [if_neg (by omega), if_pos (by omega), if_neg (by omega)]
      · rw [if_neg (by omega), if_neg (by omega), if_pos (by omega), show ((c.toNat : Int) - 48) % 256 = ((c.toNat - 48 : Nat) : Int) by omega, L_w (x := 10 * (m : Int)) (by omega), L_w (x := 10 * (m : Int) + ((c.toNat - 48 : Nat) : Int)) (by omega), L_w (x := (i : Int) + 1) (by omega)]
        rw [show 10 * (m : Int) + ((c.toNat - 48 : Nat) : Int) = ((10 * m + (c.toNat - 48) : Nat) : Int) by omega, show (i : Int) + 1 = ((i + 1 : Nat) : Int) by omega]
        exact ih k _ (i + 1) (by omega) (by omega) (by omega)

theorem L_number (s : ByteArray) {k : Nat} (hk : 12 ≤ k) : spec_l01Number.f k s = some (match D_number s.data.toList with | some r => ((r : Int), true) | none => (0, false)) := by
  have hsz := Lib.size_eq s
  unfold spec_l01Number.f
  rw [Lib.toList_data]
  obtain ⟨k, rfl⟩ : ∃ m, k = m + 1 := ⟨k - 1, by omega⟩
  cases hl : s.data.toList with
  | nil => rw [if_pos rfl, spec_l01Number.j0, if_pos rfl]; rfl
  | cons c r =>
    rw [hl] at hsz
    simp only [List.length_cons] at hsz
    rw [if_neg (by simp)]
    simp only [D_number]
    by_cases h9 : 9 < r.length + 1
    · rw [if_pos (by omega), spec_l01Number.j0, if_pos rfl, if_pos h9]
    · have hb : bt s 0 = (c.toNat : Int) := by
        have := L_btAt s 0 (by rw [hl]; simp)
        simp only [hl] at this
        exact this
      have hloop := L_numLoop s (by omega) s.size k 0 0 (by omega) (by omega) (by omega)
      rw [hl] at hloop
      simp only [List.drop_zero] at hloop
      rw [if_neg (by omega), if_neg h9, if_pos (by omega), hb]
      by_cases h0 : c.toNat = 48
      · rw [if_pos (by omega)]
        cases r with
        | nil =>
          rw [spec_l01Number.j0, if_neg (by simp at hsz ⊢; omega), if_neg (by simp)]
          exact hloop
        | cons c2 r2 =>
          simp only [List.length_cons] at hsz
          rw [spec_l01Number.j0, if_pos (by simp; omega), if_pos ⟨h0, by simp⟩]
      · rw [if_neg (by omega), spec_l01Number.j0, if_neg (by simp), if_neg (fun h => h0 h.1)]
        exact hloop

theorem L_numLt : ∀ (l : List UInt8) (a m : Nat), D_num l a = some m → m < (a + 1) * 10 ^ l.length
  | [], a, m, h => by cases h; simp
  | c :: r, a, m, h => by
    rw [D_num] at h
    split at h
    · rename_i hc
      have h1 := L_numLt r _ m h
      have h2 : (10 * a + (c.toNat - 48) + 1) * 10 ^ r.length ≤ (10 * (a + 1)) * 10 ^ r.length := Nat.mul_le_mul_right _ (by omega)
      have h3 : (a + 1) * 10 ^ (c :: r).length = (10 * (a + 1)) * 10 ^ r.length := by
        rw [List.length_cons, Nat.pow_succ, Nat.mul_comm (10 ^ r.length) 10, ← Nat.mul_assoc, Nat.mul_comm (a + 1) 10]
      omega
    · cases h

theorem L_numberLt {l : List UInt8} {m : Nat} (h : D_number l = some m) : m < 1000000000 := by
  cases l with
  | nil => cases h
  | cons c r =>
    rw [D_number] at h
    split at h
    · cases h
    · rename_i h9
      split at h
      · cases h
      · have h1 := L_numLt (c :: r) 0 m h
        have h2 : 10 ^ (c :: r).length ≤ 10 ^ 9 := Nat.pow_le_pow_right (by omega) (by simp only [List.length_cons]; omega)
        omega

theorem L_signRead (s : ByteArray) {k : Nat} (hk : 13 ≤ k) : spec_l01Signed.f k s = some (match D_sign s.data.toList with | some v => (v, true) | none => (0, false)) := by
  have hsz := Lib.size_eq s
  have hw0 : wrap64 (-0) = 0 := L_w (x := -0) (by omega)
  obtain ⟨k, rfl⟩ : ∃ m, k = m + 1 := ⟨k - 1, by omega⟩
  unfold spec_l01Signed.f
  rw [Lib.toList_data]
  cases hl : s.data.toList with
  | nil =>
    rw [if_pos rfl, spec_l01Signed.j0, if_neg (by simp), L_number s (by omega), hl]
    rfl
  | cons c r =>
    rw [hl] at hsz
    simp only [List.length_cons] at hsz
    have hb : bt s 0 = (c.toNat : Int) := by
      have := L_btAt s 0 (by rw [hl]; simp)
      simp only [hl] at this
      exact this
    rw [if_neg (by simp), if_pos (by omega), hb]
    by_cases h : c.toNat = 45
    · have e1 : s.extract 1 s.size = D_mk r := by
        rw [L_mkExt, hl]
        simp only [List.drop_succ_cons, List.drop_zero]
        rw [List.take_of_length_le (by omega)]
      rw [spec_l01Signed.j0, if_pos (by rw [h]; rfl), if_pos (by omega), e1, L_number (D_mk r) (by omega), L_mkData]
      simp only [D_sign]
      rw [if_pos h]
      cases hn : D_number r with
      | none =>
        simp only [Option.bind_some, Bool.false_eq_true, if_false, hw0]
      | some m =>
        have hm := L_numberLt hn
        simp only [Option.bind_some, if_true]
        rw [L_w (x := -(m : Int)) (by omega)]
        by_cases h0 : 0 < m
        · rw [if_pos h0, decide_eq_true (show (m : Int) > 0 by omega)]
        · rw [if_neg h0, decide_eq_false (show ¬ (m : Int) > 0 by omega), show m = 0 by omega]
          rfl
    · have hb2 : ((c.toNat : Int) == 45) = false := by
        rw [beq_eq_false_iff_ne]
        omega
      rw [hb2, spec_l01Signed.j0, if_neg (by simp), L_number s (by omega), hl]
      simp only [D_sign]
      rw [if_neg h]
      cases D_number (c :: r) <;> rfl

theorem L_rdCurveLoop (L : List (List UInt8)) (hL : L.length ≤ 1048577) (hx : ∀ x ∈ L, x.length ≤ 1048576) (d : Nat) : ∀ (k : Nat) (o : List S116) (i : Nat), i + d = L.length → 8 * d + 4000000 < k → o.length ≤ i → D_i16s o →
    spec_ReadCurve.l0 k (L.map D_mk) o (i : Int) = some (D_crvRes (D_rdPts (L.drop i) o)) := by
  induction d with
  | zero =>
    intro k o i hi hk ho hB
    obtain ⟨k, rfl⟩ : ∃ m, k = m + 1 := ⟨k - 1, by omega⟩
    rw [spec_ReadCurve.l0, List.length_map, if_neg (by omega), L_specCurve o hB (by omega) (by omega), List.drop_eq_nil_of_le (by omega), D_rdPts]
    simp only [Option.bind_some]
    by_cases h : D_curve o = true
    · rw [if_pos h, if_pos h]; rfl
    · rw [if_neg h, if_neg h]; rfl
  | succ d ih =>
    intro k o i hi hk ho hB
    obtain ⟨k, rfl⟩ : ∃ m, k = m + 1 := ⟨k - 1, by omega⟩
    have hlt : i < L.length := by omega
    have hg : rdOf ByteArray.empty (L.map D_mk) (i : Int) = D_mk L[i] := by
      unfold rdOf
      rw [Int.toNat_natCast, List.getD, List.getElem?_map, List.getElem?_eq_getElem hlt]
      rfl
    have hsz := hx _ (List.getElem_mem hlt)
    rw [spec_ReadCurve.l0, L_w (x := (i : Int) + 1) (by omega), List.length_map, if_pos (by omega), if_pos (by omega), hg, L_split (D_mk L[i]) 58 (by omega) (by rw [L_mkSz]; exact hsz) (by rw [L_mkSz]; omega)]
    simp only [Option.bind_some, L_mkData]
    rw [List.drop_eq_getElem_cons hlt, D_rdPts, D_ptOf]
    rw [show UInt8.ofNat (58 : Int).toNat = 58 from rfl]
    generalize hq : D_splitOn 58 [] L[i] = Q
    match Q with
    | [] => exact absurd hq (L_splitOnNe _ _ _)
    | [_] => simp [D_crvRes]
    | [w, n] =>
      have hr0 : rdOf ByteArray.empty ([w, n].map D_mk) 0 = D_mk w := rfl
      have hr : rdOf ByteArray.empty ([w, n].map D_mk) 1 = D_mk n := rfl
      simp only [List.length_map, List.length_cons, List.length_nil]
      rw [if_pos (by decide), if_pos (by decide), hr0, L_signRead (D_mk w) (by omega), L_mkData]
      simp only [Option.bind_some]
      rw [if_pos (by decide), hr, L_number (D_mk n) (by omega), L_mkData]
      simp only [Option.bind_some]
      cases hs : D_sign w with
      | none => simp [D_crvRes]
      | some u =>
        cases hnm : D_number n with
        | none => simp [D_crvRes]
        | some m =>
          unfold spec_l02Place.f spec_l02Density.f
          simp only [if_true, L_in, Option.bind_some, decide_eq_true_eq]
          by_cases h1 : -200 ≤ u ∧ u ≤ 200
          · by_cases h2 : m ≤ 400
            · rw [if_pos h1, if_pos (by omega), if_pos (by omega), if_pos ⟨h1, h2⟩, L_w16 (by omega), L_w16 (by omega), show (i : Int) + 1 = ((i + 1 : Nat) : Int) by omega]
              rw [ih k (o ++ [(⟨u, (m : Int)⟩ : S116)]) (i + 1) (by omega) (by omega) (by simp; omega) (by
                intro x hx
                rcases List.mem_append.1 hx with hx | hx
                · exact hB x hx
                · rw [List.mem_singleton] at hx
                  subst hx
                  dsimp only
                  omega)]
            · rw [if_pos h1, if_neg (by omega), if_neg (fun e => h2 e.2)]; rfl
          · rw [if_neg h1, if_neg (fun e => h1 e.1)]; rfl
    | _ :: _ :: _ :: _ =>
      simp only [List.length_map, List.length_cons]
      rw [if_neg (by omega)]
      rfl

theorem L_specCurveRead (s : ByteArray) (hs : s.size ≤ 1048576) {k : Nat} (hk : 13000000 ≤ k) : spec_ReadCurve.f k s = some (D_crvRes (D_rdPts (D_splitOn 32 [] s.data.toList) [])) := by
  have hsz := Lib.size_eq s
  unfold spec_ReadCurve.f
  rw [L_split s 32 (by omega) hs (by omega), show UInt8.ofNat (32 : Int).toNat = 32 from rfl]
  have hlen := L_splitOnLen 32 s.data.toList []
  have hgl := L_splitOnGlue 32 s.data.toList []
  have hmem := L_glueLen 32 (D_splitOn 32 [] s.data.toList)
  rw [hgl] at hmem
  generalize D_splitOn 32 [] s.data.toList = L at hlen hgl hmem ⊢
  simp only [Option.bind_some]
  have := L_rdCurveLoop L (by omega) (fun x hx => by have := hmem x hx; simp only [List.nil_append] at this; omega) L.length k [] 0 (by omega) (by omega) (by simp) (fun x hx => by simp at hx)
  simpa using this

theorem L_splitOnSkip (b : UInt8) : ∀ (x acc r : List UInt8), b ∉ x → D_splitOn b acc (x ++ r) = D_splitOn b (acc ++ x) r
  | [], acc, r, _ => by simp
  | c :: x, acc, r, h => by
    rw [List.cons_append, D_splitOn, if_neg (fun e => h (by rw [e]; simp)), L_splitOnSkip b x _ r (fun e => h (List.mem_cons_of_mem _ e))]
    simp

theorem L_splitOnMiss (b : UInt8) (x acc : List UInt8) (h : b ∉ x) : D_splitOn b acc x = [acc ++ x] := by
  have := L_splitOnSkip b x acc [] h
  rw [List.append_nil] at this
  rw [this, D_splitOn]

theorem L_splitOnHit (b : UInt8) (x acc r : List UInt8) (h : b ∉ x) : D_splitOn b acc (x ++ b :: r) = (acc ++ x) :: D_splitOn b [] r := by
  rw [L_splitOnSkip b x acc _ h, D_splitOn, if_pos rfl]

theorem L_splitOnGlue2 (b : UInt8) : ∀ (L : List (List UInt8)), L ≠ [] → (∀ x ∈ L, b ∉ x) → D_splitOn b [] (D_glue b L) = L
  | [], h, _ => absurd rfl h
  | [x], _, h => by rw [D_glue, L_splitOnMiss b x [] (h x (by simp))]; rfl
  | x :: y :: t, _, h => by
    rw [D_glue, L_splitOnHit b x [] _ (h x (by simp)), L_splitOnGlue2 b (y :: t) (by simp) (fun z hz => h z (List.mem_cons_of_mem _ hz))]
    rfl

theorem L_numberDec {m : Nat} (h : (Lib.decDigits m).length ≤ 9) : D_number (Lib.decDigits m) = some m := by
  obtain ⟨c, r, e, hz⟩ := L_decHead m
  have h1 := L_numDec m
  rw [e] at h h1 ⊢
  simp only [List.length_cons] at h
  rw [D_number, if_neg (by omega), if_neg hz, h1]

theorem L_itoaNeg {n : Int} (h : n < 0) : Lib.itoa n = 45 :: Lib.decDigits n.natAbs := by unfold Lib.itoa; rw [if_pos h]

theorem L_signItoa {v : Int} (h : -1000000 < v ∧ v < 1000000) : D_sign (Lib.itoa v) = some v := by
  by_cases hv : v < 0
  · have h1 := L_numberDec (m := v.natAbs) (by have := L_decLen 6 v.natAbs (by omega) (by omega); omega)
    rw [L_itoaNeg hv]
    simp only [D_sign, h1]
    rw [if_pos (by decide), if_pos (by omega)]
    congr 1
    omega
  · have h1 := L_numberDec (m := v.toNat) (by have := L_decLen 6 v.toNat (by omega) (by omega); omega)
    obtain ⟨c, r, e, _⟩ := L_decHead v.toNat
    have hc := L_decDig v.toNat c (by rw [e]; simp)
    rw [L_itoaPos (by omega), e]
    rw [e] at h1
    simp only [D_sign, h1]
    rw [if_neg (by omega)]
    congr 1
    omega

theorem L_ptOf {p : S116} (h : (-200 ≤ p.f0 ∧ p.f0 ≤ 200) ∧ 0 ≤ p.f1 ∧ p.f1 ≤ 400) : D_ptOf (D_ptL p) = some p := by
  have h2 : (58 : UInt8) ∉ Lib.itoa p.f0 := L_itoaNo ⟨Or.inr (by decide), by decide⟩
  have h3 : (58 : UInt8) ∉ Lib.itoa p.f1 := L_itoaNo ⟨Or.inr (by decide), by decide⟩
  have hs : D_splitOn 58 [] (D_ptL p) = [Lib.itoa p.f0, Lib.itoa p.f1] := by
    unfold D_ptL
    rw [List.append_assoc, List.singleton_append, L_splitOnHit 58 _ [] _ h2, L_splitOnMiss 58 _ [] h3]
    rfl
  unfold D_ptOf
  rw [hs]
  have h4 := L_numberDec (m := p.f1.toNat) (by have := L_decLen 6 p.f1.toNat (by omega) (by omega); omega)
  rw [L_itoaPos (n := p.f1) h.2.1]
  simp only [L_signItoa (v := p.f0) (by omega), h4]
  rw [if_pos (by omega), show ((p.f1.toNat : Nat) : Int) = p.f1 by omega]

theorem L_rdPtsComplete : ∀ (P o : List S116), D_okPt P → D_rdPts (P.map D_ptL) o = if D_curve (o ++ P) = true then some (o ++ P) else none
  | [], o, _ => by simp [D_rdPts]
  | p :: P, o, h => by
    rw [List.map_cons, D_rdPts, L_ptOf (h p (by simp))]
    simp only
    rw [L_rdPtsComplete P (o ++ [p]) (fun q hq => h q (List.mem_cons_of_mem _ hq))]
    simp

theorem L_specCurveOf (s : ByteArray) (hs : s.size ≤ 1048576) {k : Nat} (hk : 13000000 ≤ k) (P : List S116) (hP : D_curve P = true) (e : s.data.toList = D_crv P) : spec_ReadCurve.f k s = some (P, 0) := by
  rw [L_specCurveRead s hs hk, e]
  unfold D_crv
  rw [L_splitOnGlue2 32 _ (by simpa using L_crvNe hP) (L_ptsNo ⟨Or.inl (by decide), by decide, by decide⟩), L_rdPtsComplete P [] (L_okPt hP)]
  simp only [List.nil_append]
  rw [if_pos hP]
  rfl

theorem L_u8of (c : UInt8) (n : Nat) (h : c.toNat = n) : UInt8.ofNat n = c := by rw [← h]; simp

theorem L_numInv : ∀ (l : List UInt8) (a m : Nat), 1 ≤ a → D_num l a = some m → Lib.decDigits m = Lib.decDigits a ++ l ∧ a ≤ m
  | [], a, m, _, h => by cases h; exact ⟨by simp, Nat.le_refl _⟩
  | c :: r, a, m, ha, h => by
    rw [D_num] at h
    split at h
    · rename_i hc
      obtain ⟨e, hm⟩ := L_numInv r _ m (by omega) h
      have e2 : Lib.decDigits (10 * a + (c.toNat - 48)) = Lib.decDigits a ++ [c] := by
        rw [Lib.decDigits, dif_neg (by omega), show (10 * a + (c.toNat - 48)) / 10 = a by omega, show 48 + (10 * a + (c.toNat - 48)) % 10 = c.toNat by omega, L_u8of c _ rfl]
      rw [e, e2]
      exact ⟨by simp, by omega⟩
    · cases h

/-- a number with no zero ahead is its own numeral -/
theorem L_numCanon (c : UInt8) (r : List UInt8) (m : Nat) (hz : ¬ (c.toNat = 48 ∧ r ≠ [])) (h : D_num (c :: r) 0 = some m) : Lib.decDigits m = c :: r := by
  rw [D_num] at h
  split at h
  · rename_i hc
    by_cases h0 : c.toNat = 48
    · have hr : r = [] := Classical.byContradiction fun e => hz ⟨h0, e⟩
      subst hr
      rw [h0] at h
      cases h
      rw [Lib.decDigits, dif_pos (by omega), L_u8of c _ (by omega)]
    · obtain ⟨e, _⟩ := L_numInv r _ m (by omega) h
      rw [e, Lib.decDigits, dif_pos (by omega), L_u8of c _ (by omega)]
      rfl
  · cases h

theorem L_numberSound {l : List UInt8} {m : Nat} (h : D_number l = some m) : l = Lib.decDigits m ∧ l.length ≤ 9 := by
  cases l with
  | nil => cases h
  | cons c r =>
    rw [D_number] at h
    split at h
    · cases h
    · rename_i h9
      split at h
      · cases h
      · rename_i hz
        exact ⟨(L_numCanon c r m hz h).symm, by simp only [List.length_cons]; omega⟩

theorem L_signSound {l : List UInt8} {v : Int} (h : D_sign l = some v) : l = Lib.itoa v := by
  cases l with
  | nil => cases h
  | cons c r =>
    simp only [D_sign] at h
    split at h
    · rename_i hc
      cases hn : D_number r with
      | none => rw [hn] at h; cases h
      | some m =>
        rw [hn] at h
        simp only at h
        split at h
        · rename_i h0
          cases h
          rw [L_itoaNeg (by omega), show (-(m : Int)).natAbs = m by omega, ← (L_numberSound hn).1]
          congr 1
          exact UInt8.toNat_inj.1 (by rw [hc]; rfl)
        · cases h
    · cases hn : D_number (c :: r) with
      | none => rw [hn] at h; cases h
      | some m =>
        rw [hn] at h
        cases h
        rw [L_itoaPos (by omega), Int.toNat_natCast]
        exact (L_numberSound hn).1

theorem L_ptSound {x : List UInt8} {p : S116} (h : D_ptOf x = some p) : x = D_ptL p := by
  unfold D_ptOf at h
  split at h
  · rename_i a b hq
    cases hs : D_sign a with
    | none => rw [hs] at h; cases h
    | some u =>
      rw [hs] at h
      simp only at h
      cases hn : D_number b with
      | none => rw [hn] at h; cases h
      | some m =>
        rw [hn] at h
        simp only at h
        split at h
        · cases h
          have hg := L_splitOnGlue 58 x []
          rw [hq] at hg
          simp only [D_glue, List.nil_append] at hg
          unfold D_ptL
          dsimp only
          rw [L_itoaPos (n := (m : Int)) (by omega), Int.toNat_natCast, ← (L_numberSound hn).1, ← L_signSound hs, ← hg]
          simp
        · cases h
  · cases h

theorem L_rdPtsSound : ∀ (L : List (List UInt8)) (o o' : List S116), D_rdPts L o = some o' → D_curve o' = true ∧ ∃ P, o' = o ++ P ∧ L = P.map D_ptL
  | [], o, o', h => by
    rw [D_rdPts] at h
    split at h
    · rename_i hc
      cases h
      exact ⟨hc, [], by simp, rfl⟩
    · cases h
  | x :: t, o, o', h => by
    rw [D_rdPts] at h
    split at h
    · rename_i p hp
      obtain ⟨hc, P, e1, e2⟩ := L_rdPtsSound t _ o' h
      refine ⟨hc, p :: P, by rw [e1]; simp, ?_⟩
      rw [List.map_cons, ← e2, ← L_ptSound hp]
    · cases h

theorem L_specCurveNo (s : ByteArray) (hs : s.size ≤ 1048576) {k : Nat} (hk : 13000000 ≤ k) (h : ∀ P, D_curve P = true → s.data.toList ≠ D_crv P) : spec_ReadCurve.f k s = some ([], 5) := by
  rw [L_specCurveRead s hs hk]
  cases hq : D_rdPts (D_splitOn 32 [] s.data.toList) [] with
  | none => rfl
  | some o =>
    obtain ⟨hc, P, e1, e2⟩ := L_rdPtsSound _ _ _ hq
    simp only [List.nil_append] at e1
    subst e1
    have hg := L_splitOnGlue 32 s.data.toList []
    rw [e2] at hg
    exact absurd hg.symm (h _ hc)

theorem L_implCurveNo (s : ByteArray) (hs : s.size ≤ 1048576) (h : ∀ P, D_curve P = true → s.data.toList ≠ D_crv P) : impl_ReadCurve.f s = some ([], 5) := by
  rw [L_implCurveRead s hs]
  cases hq : D_readPts (D_readWords13 s) [] with
  | none => rfl
  | some o =>
    simp only
    rw [if_neg (fun e => h _ e.1 e.2)]

theorem L_curveBoth (s : ByteArray) (hs : s.size ≤ 1048576) : ∃ x : Option (List S116), (∀ k, 13000000 ≤ k → spec_ReadCurve.f k s = some (D_crvRes x)) ∧ impl_ReadCurve.f s = some (D_crvRes x) ∧ (∀ P, x = some P → D_curve P = true ∧ s.data.toList = D_crv P) ∧ (∀ P, D_curve P = true → s.data.toList = D_crv P → x = some P) := by
  by_cases h : ∃ P, D_curve P = true ∧ s.data.toList = D_crv P
  · obtain ⟨P, hP, e⟩ := h
    refine ⟨some P, fun k hk => L_specCurveOf s hs hk P hP e, L_implCurveOf s hs P hP e, fun Q hQ => by cases hQ; exact ⟨hP, e⟩, fun Q hQ eQ => ?_⟩
    have h1 := (L_implCurveOf s hs P hP e).symm.trans (L_implCurveOf s hs Q hQ eQ)
    simp only [Option.some.injEq, Prod.mk.injEq] at h1
    rw [h1.1]
  · have h' : ∀ P, D_curve P = true → s.data.toList ≠ D_crv P := fun P hP e => h ⟨P, hP, e⟩
    exact ⟨none, fun k hk => L_specCurveNo s hs hk h', L_implCurveNo s hs h', fun P hP => (by cases hP), fun P hP e => absurd e (h' P hP)⟩

theorem L_or16 (a d : Nat) (ha : a < 1152921504606846976) (hd : d < 16) : bits .or .u64 (IntKind.u64.wrap ((a : Int) * 16)) (d : Int) = ((16 * a + d : Nat) : Int) := by
  rw [L_wu (x := (a : Int) * 16) (by omega), show (a : Int) * 16 = ((16 * a : Nat) : Int) by omega, bits_or_u64_nat (16 * a) d (by omega) (by omega)]
  have := Nat.two_pow_add_eq_or_of_lt (i := 4) (b := d) (by omega) a
  rw [show (2 : Nat) ^ 4 = 16 by decide] at this
  rw [this]

theorem L_unhexGood (s : ByteArray) (hs : s.size = 16) (d : Nat) : ∀ (k a i : Nat), i + d = 16 → 2 * d < k → a < 16 ^ i → spec_l03Unhex.l0 k s (a : Int) (i : Int) = some (match D_unhexL (s.data.toList.drop i) a with | some u => ((u : Int), true) | none => (0, false)) := by
  have hsz := Lib.size_eq s
  induction d with
  | zero =>
    intro k a i hi hk ha
    obtain ⟨k, rfl⟩ : ∃ m, k = m + 1 := ⟨k - 1, by omega⟩
    rw [spec_l03Unhex.l0, if_neg (by omega), List.drop_eq_nil_of_le (by omega), hs]
    rfl
  | succ d ih =>
    intro k a i hi hk ha
    obtain ⟨k, rfl⟩ : ∃ m, k = m + 2 := ⟨k - 2, by omega⟩
    have hlt : i < s.data.toList.length := by omega
    have hp : 16 ^ (i + 1) = 16 ^ i * 16 := Nat.pow_succ ..
    have hp15 : 16 ^ i ≤ 16 ^ 15 := Nat.pow_le_pow_right (by omega) (by omega)
    have h15 : (16 : Nat) ^ 15 = 1152921504606846976 := by decide
    rw [spec_l03Unhex.l0, if_pos (by omega), if_pos (by omega), L_btAt s i hlt, List.drop_eq_getElem_cons hlt, D_unhexL, D_nib]
    generalize s.data.toList[i] = c
    have hc := c.toNat_lt
    by_cases h1 : 48 ≤ c.toNat
    · rw [if_pos (by omega), spec_l03Unhex.j1, L_w (x := (i : Int) + 1) (by omega), show (i : Int) + 1 = ((i + 1 : Nat) : Int) by omega]
      by_cases h2 : c.toNat ≤ 57
      · rw [if_pos (decide_eq_true (by omega)), if_pos (show 48 ≤ c.toNat ∧ c.toNat ≤ 57 from ⟨h1, h2⟩), show ((c.toNat : Int) - 48) % 256 = ((c.toNat - 48 : Nat) : Int) by omega, L_or16 a _ (by omega) (by omega)]
        exact ih k _ (i + 1) (by omega) (by omega) (by omega)
      · rw [if_neg (by rw [decide_eq_true_eq]; omega), if_neg (show ¬ (48 ≤ c.toNat ∧ c.toNat ≤ 57) from fun e => h2 e.2)]
        by_cases h3 : 97 ≤ c.toNat
        · rw [if_pos (by omega)]
          by_cases h4 : c.toNat ≤ 102
          · rw [if_pos (by omega), if_pos (show 97 ≤ c.toNat ∧ c.toNat ≤ 102 from ⟨h3, h4⟩), show ((c.toNat : Int) - 97) % 256 = ((c.toNat - 97 : Nat) : Int) by omega, L_or16 a _ (by omega) (by omega), show ((16 * a + (c.toNat - 97) : Nat) : Int) + 10 = ((16 * a + (c.toNat - 87) : Nat) : Int) by omega, L_wu (by omega)]
            exact ih k _ (i + 1) (by omega) (by omega) (by omega)
          · rw [if_neg (by omega), if_neg (show ¬ (97 ≤ c.toNat ∧ c.toNat ≤ 102) from fun e => h4 e.2)]
        · rw [if_neg (by omega), if_neg (show ¬ (97 ≤ c.toNat ∧ c.toNat ≤ 102) from fun e => h3 e.1)]
    · rw [if_neg (by omega), spec_l03Unhex.j1, if_neg (by simp), if_neg (by omega), if_neg (show ¬ (48 ≤ c.toNat ∧ c.toNat ≤ 57) from fun e => h1 e.1), if_neg (show ¬ (97 ≤ c.toNat ∧ c.toNat ≤ 102) from fun e => by omega)]

theorem L_unhexBad (s : ByteArray) (hs : s.size ≤ 1048576) (hn : s.size ≠ 16) (d : Nat) : ∀ (k : Nat) (x : Int) (i : Nat), i + d = s.size → 2 * d < k → ∃ v, spec_l03Unhex.l0 k s x (i : Int) = some (v, false) := by
  induction d with
  | zero =>
    intro k x i hi hk
    obtain ⟨k, rfl⟩ : ∃ m, k = m + 1 := ⟨k - 1, by omega⟩
    rw [spec_l03Unhex.l0, if_neg (by omega), show ((s.size : Int) == 16) = false by rw [beq_eq_false_iff_ne]; omega]
    exact ⟨_, rfl⟩
  | succ d ih =>
    intro k x i hi hk
    obtain ⟨k, rfl⟩ : ∃ m, k = m + 2 := ⟨k - 2, by omega⟩
    have ih' := fun x => ih k x (i + 1) (by omega) (by omega)
    rw [spec_l03Unhex.l0, if_pos (by omega), if_pos (by omega)]
    have key : ∀ b, ∃ v, spec_l03Unhex.j1 (k + 1) s x (i : Int) (bt s (i : Int)) b = some (v, false) := by
      intro b
      rw [spec_l03Unhex.j1, L_w (x := (i : Int) + 1) (by omega), show (i : Int) + 1 = ((i + 1 : Nat) : Int) by omega]
      split
      · exact ih' _
      · split
        · split
          · exact ih' _
          · exact ⟨_, rfl⟩
        · exact ⟨_, rfl⟩
    split
    · exact key _
    · exact key _

theorem L_unhex (s : ByteArray) (hs : s.size ≤ 1048576) {k : Nat} (hk : 2 * s.size < k) : ∃ v : Int, spec_l03Unhex.f k s = some (match (if s.data.toList.length = 16 then D_unhexL s.data.toList 0 else none) with | some u => ((u : Int), true) | none => (v, false)) := by
  have hsz := Lib.size_eq s
  unfold spec_l03Unhex.f
  by_cases h : s.size = 16
  · refine ⟨0, ?_⟩
    have := L_unhexGood s h 16 k 0 0 (by omega) (by omega) (by omega)
    rw [if_pos (by omega)]
    simpa using this
  · obtain ⟨v, e⟩ := L_unhexBad s hs h s.size k 0 0 (by omega) hk
    refine ⟨v, ?_⟩
    rw [if_neg (by omega)]
    simpa using e

theorem L_rdLogLoop (P : List S116) (L : List (List UInt8)) (n : Nat) (hn : n < L.length) (hL : L.length ≤ 40) (hx : ∀ x ∈ L, x.length ≤ 1048576) (d : Nat) : ∀ (k : Nat) (o : List S89) (i : Nat), i + d = n → d + 4000000 < k → o.length ≤ i →
    spec_ReadLog.l0 k (L.map D_mk) (n : Int) P o (i : Int) = some (match D_rdSts ((L.drop i).take d) o with | some o' => (P, o', 0) | none => ([], [], 5)) := by
  induction d with
  | zero =>
    intro k o i hi hk ho
    obtain ⟨k, rfl⟩ : ∃ m, k = m + 1 := ⟨k - 1, by omega⟩
    rw [spec_ReadLog.l0, if_neg (by omega), List.take_zero, D_rdSts]
  | succ d ih =>
    intro k o i hi hk ho
    obtain ⟨k, rfl⟩ : ∃ m, k = m + 1 := ⟨k - 1, by omega⟩
    have hlt : i < L.length := by omega
    have hg : rdOf ByteArray.empty (L.map D_mk) (i : Int) = D_mk L[i] := by
      unfold rdOf
      rw [Int.toNat_natCast, List.getD, List.getElem?_map, List.getElem?_eq_getElem hlt]
      rfl
    have hsz := hx _ (List.getElem_mem hlt)
    rw [spec_ReadLog.l0, L_w (x := (i : Int) + 1) (by omega), List.length_map, if_pos (by omega), if_pos (by omega), if_pos (by omega), hg, L_split (D_mk L[i]) 32 (by omega) (by rw [L_mkSz]; exact hsz) (by rw [L_mkSz]; omega)]
    simp only [Option.bind_some, L_mkData]
    rw [List.drop_eq_getElem_cons hlt, List.take_succ_cons, D_rdSts, D_stOf]
    rw [show UInt8.ofNat (32 : Int).toNat = 32 from rfl]
    have hmem : ∀ y ∈ D_splitOn 32 [] L[i], y.length ≤ 1048576 := fun y hy => by
      have h1 := L_glueLen 32 _ y hy
      rw [L_splitOnGlue 32 L[i] []] at h1
      simp only [List.nil_append] at h1
      omega
    generalize hq : D_splitOn 32 [] L[i] = Q at hmem
    match Q with
    | [] => exact absurd hq (L_splitOnNe _ _ _)
    | [_] => simp
    | [w, n'] =>
      have hr0 : rdOf ByteArray.empty ([w, n'].map D_mk) 0 = D_mk w := rfl
      have hr : rdOf ByteArray.empty ([w, n'].map D_mk) 1 = D_mk n' := rfl
      obtain ⟨v, hv⟩ := L_unhex (D_mk w) (by rw [L_mkSz]; exact hmem w (by simp)) (k := k) (by rw [L_mkSz]; have := hmem w (by simp); omega)
      rw [L_mkData] at hv
      simp only [List.length_map, List.length_cons, List.length_nil]
      rw [if_pos (by decide), if_pos (by decide), hr0, hv]
      simp only [Option.bind_some]
      rw [if_pos (by decide), hr, L_number (D_mk n') (by omega), L_mkData]
      simp only [Option.bind_some]
      cases hs : (if w.length = 16 then D_unhexL w 0 else none) with
      | none => simp
      | some u =>
        cases hnm : D_number n' with
        | none => simp
        | some m =>
          simp only [if_true, L_specThirds, Option.bind_some, decide_eq_true_eq]
          by_cases h1 : m ≤ 36
          · rw [if_pos (by omega), if_pos (by omega), if_pos h1, L_w8 (by omega), show (i : Int) + 1 = ((i + 1 : Nat) : Int) by omega]
            rw [ih k (o ++ [(⟨(u : Int), (m : Int)⟩ : S89)]) (i + 1) (by omega) (by omega) (by simp; omega)]
          · rw [if_neg (by omega), if_neg h1]
    | _ :: _ :: _ :: _ =>
      simp only [List.length_map, List.length_cons]
      rw [if_neg (by omega)]

theorem L_specLogRead (s : ByteArray) (hs : s.size ≤ 1048576) {k : Nat} (hk : 20000000 ≤ k) : ∃ x : Option (List S116),
    (∀ P, x = some P → D_curve P = true ∧ ((D_splitOn 10 [] s.data.toList).headD []) = D_crv P) ∧ (∀ P, D_curve P = true → ((D_splitOn 10 [] s.data.toList).headD []) = D_crv P → x = some P) ∧
    spec_ReadLog.f k s = some ((if (1 ≤ (D_splitOn 10 [] s.data.toList).length - 1 ∧ (D_splitOn 10 [] s.data.toList).length - 1 ≤ 31) ∧ (D_splitOn 10 [] s.data.toList).getLast? = some [] then
      (match x with | some P => (match D_rdSts (((D_splitOn 10 [] s.data.toList).drop 1).take ((D_splitOn 10 [] s.data.toList).length - 2)) [] with | some o => (P, o, 0) | none => ([], [], 5)) | none => ([], [], 5)) else ([], [], 5)) : List S116 × List S89 × Int) := by
  have hsz := Lib.size_eq s
  unfold spec_ReadLog.f
  rw [L_split s 10 (by omega) hs (by omega), show UInt8.ofNat (10 : Int).toNat = 10 from rfl]
  have hlen := L_splitOnLen 10 s.data.toList []
  have hgl := L_splitOnGlue 10 s.data.toList []
  have hne := L_splitOnNe 10 s.data.toList []
  have hmem := L_glueLen 10 (D_splitOn 10 [] s.data.toList)
  rw [hgl] at hmem
  generalize D_splitOn 10 [] s.data.toList = L at hlen hgl hne hmem ⊢
  obtain ⟨l0, rest, rfl⟩ : ∃ l0 rest, L = l0 :: rest := by cases L with | nil => exact absurd rfl hne | cons a b => exact ⟨a, b, rfl⟩
  have hx0 := hmem l0 (by simp)
  simp only [List.nil_append] at hx0
  obtain ⟨x, h1, _, h3, h4⟩ := L_curveBoth (D_mk l0) (by rw [L_mkSz]; omega)
  rw [L_mkData] at h3 h4
  refine ⟨x, h3, h4, ?_⟩
  generalize hL : l0 :: rest = L at *
  obtain ⟨n, hn⟩ : ∃ n, L.length = n + 1 := ⟨rest.length, by rw [← hL]; rfl⟩
  have hg0 : rdOf ByteArray.empty (L.map D_mk) 0 = D_mk l0 := by rw [← hL]; rfl
  simp only [Option.bind_some, List.length_map]
  rw [L_w (by omega), show (L.length : Int) - 1 = (n : Int) by omega, show L.length - 1 = n by omega, show L.length - 2 = n - 1 by omega]
  have hg : rdOf ByteArray.empty (L.map D_mk) (n : Int) = D_mk (L[n]'(by omega)) := by
    unfold rdOf
    rw [Int.toNat_natCast, List.getD, List.getElem?_map, List.getElem?_eq_getElem (by omega)]
    rfl
  have hlast : L.getLast? = some (L[n]'(by omega)) := by
    rw [List.getLast?_eq_getElem?, show L.length - 1 = n by omega, List.getElem?_eq_getElem]
  obtain ⟨k, rfl⟩ : ∃ m, k = m + 1 := ⟨k - 1, by omega⟩
  by_cases hn1 : 1 ≤ n
  · by_cases hn2 : n ≤ 31
    · rw [if_neg (by omega), if_neg (by omega), if_pos (by omega), if_pos (by omega), hg, L_mkToList, hlast]
      by_cases h : L[n]'(by omega) = []
      · rw [h, if_pos ⟨⟨hn1, hn2⟩, rfl⟩, spec_ReadLog.j0, if_neg (by simp), List.length_map, if_pos (by omega), hg0, h1 k (by omega)]
        simp only [Option.bind_some]
        cases x with
        | none => rfl
        | some P =>
          simp only [D_crvRes, if_true]
          have := L_rdLogLoop P L n (by omega) (by omega) (fun y hy => by have := hmem y hy; simp only [List.nil_append] at this; omega) (n - 1) k [] 1 (by omega) (by omega) (by simp)
          exact this
      · have hb : ((L[n]'(by omega)) != ([] : List UInt8)) = true := by simpa using h
        rw [hb, spec_ReadLog.j0, if_pos rfl, if_neg (fun e => h (Option.some.inj e.2))]
    · rw [if_neg (by omega), if_pos (by omega), spec_ReadLog.j0, if_pos rfl, if_neg (fun e => hn2 e.1.2)]
  · rw [if_pos (by omega), spec_ReadLog.j0, if_pos rfl, if_neg (fun e => hn1 e.1.1)]

theorem L_splitLined (b : UInt8) : ∀ (L : List (List UInt8)), (∀ x ∈ L, b ∉ x) → D_splitOn b [] (D_lined b L) = L ++ [[]]
  | [], _ => rfl
  | x :: t, h => by
    rw [D_lined, L_splitOnHit b x [] _ (h x (by simp)), L_splitLined b t (fun y hy => h y (List.mem_cons_of_mem _ hy))]
    simp

theorem L_splitTL {l : List UInt8} {P : List S116} {S : List S89} (e : l = D_TL P S) : D_splitOn 10 [] l = D_crv P :: (S.map D_sl ++ [[]]) := by
  rw [e]
  unfold D_TL
  rw [L_splitLined 10 _ L_tlNo]
  rfl

theorem L_unhexN (u : Nat) : ∀ n, D_unhexL (D_hexN u n) (u / 16 ^ n) = some u
  | 0 => by simp [D_hexN, D_unhexL]
  | n + 1 => by
    rw [D_hexN, D_unhexL, (L_nibC (by omega)).1]
    simp only
    rw [show 16 * (u / 16 ^ (n + 1)) + u / 16 ^ n % 16 = u / 16 ^ n by rw [Nat.pow_succ, ← Nat.div_div_eq_div_mul]; omega]
    exact L_unhexN u n

theorem L_hexNLen (u : Nat) : ∀ n, (D_hexN u n).length = n
  | 0 => rfl
  | n + 1 => by rw [D_hexN, List.length_cons, L_hexNLen u n]

theorem L_stOf {s : S89} (h : 0 ≤ s.f0 ∧ s.f0 < 18446744073709551616) (h1 : 0 ≤ s.f1 ∧ s.f1 ≤ 36) : D_stOf (D_sl s) = some s := by
  have hs : D_splitOn 32 [] (D_sl s) = [D_hexN s.f0.toNat 16, Lib.decDigits s.f1.toNat] := by
    unfold D_sl
    rw [L_splitOnHit 32 _ [] _ (L_hexNNo _ 16).1, L_splitOnMiss 32 _ [] (L_decNo (Or.inl (by decide)))]
    rfl
  have h3 : (16 : Nat) ^ 16 = 18446744073709551616 := by decide
  have h2 := L_unhexN s.f0.toNat 16
  rw [h3, show s.f0.toNat / 18446744073709551616 = 0 by omega] at h2
  unfold D_stOf
  rw [hs]
  have h4 := L_numberDec (m := s.f1.toNat) (by have := L_decLen 6 s.f1.toNat (by omega) (by omega); omega)
  simp only [L_hexNLen, if_true, h2, h4]
  rw [if_pos (by omega), show ((s.f1.toNat : Nat) : Int) = s.f1 by omega, show ((s.f0.toNat : Nat) : Int) = s.f0 by omega]

theorem L_rdStsComplete : ∀ (S o : List S89), (∀ s ∈ S, (0 ≤ s.f0 ∧ s.f0 < 18446744073709551616) ∧ 0 ≤ s.f1 ∧ s.f1 ≤ 36) → D_rdSts (S.map D_sl) o = some (o ++ S)
  | [], o, _ => by simp [D_rdSts]
  | s :: S, o, h => by
    have h1 := h s (by simp)
    rw [List.map_cons, D_rdSts, L_stOf h1.1 h1.2]
    simp only
    rw [L_rdStsComplete S (o ++ [s]) (fun q hq => h q (List.mem_cons_of_mem _ hq))]
    simp

theorem L_specLogOf (s : ByteArray) (hs : s.size ≤ 1048576) {k : Nat} (hk : 20000000 ≤ k) (P : List S116) (S : List S89) (h : D_okLog P S) (e : s.data.toList = D_TL P S) : spec_ReadLog.f k s = some (P, S, 0) := by
  obtain ⟨x, _, h4, e1⟩ := L_specLogRead s hs hk
  rw [L_splitTL e] at e1 h4
  have hx := h4 P h.1 rfl
  subst hx
  have hS : ∀ s ∈ S, (0 ≤ s.f0 ∧ s.f0 < 18446744073709551616) ∧ 0 ≤ s.f1 ∧ s.f1 ≤ 36 := fun s hs => ⟨h.2.2 s hs, h.2.1.1 s hs⟩
  have hl := h.2.1.2
  rw [e1]
  simp only [List.length_cons, List.length_append, List.length_map, List.length_nil]
  rw [if_pos ⟨⟨by omega, by omega⟩, by rw [List.getLast?_cons]; simp⟩, List.drop_succ_cons, List.drop_zero, show S.length + (0 + 1) + 1 - 2 = (S.map D_sl).length by rw [List.length_map]; omega, List.take_left', L_rdStsComplete S [] hS]
  · rfl
  · rfl

theorem L_hexULt : ∀ (l : List UInt8) (a u : Nat), D_hexU a l = some (some u) → a < 18446744073709551616 → u < 18446744073709551616
  | [], a, u, h, ha => by
    simp only [D_hexU, Option.some.injEq] at h
    omega
  | c :: r, a, u, h, ha => by
    have hb := bits_hi_u8 .or (c.toNat : Int) 32
    simp only [D_hexU] at h
    split at h
    · split at h
      · cases h
      · exact L_hexULt r _ u h (by omega)
    · split at h
      · split at h
        · cases h
        · split at h
          · cases h
          · exact L_hexULt r _ u h (by omega)
      · cases h

theorem L_hexOfLt {l : List UInt8} {u : Nat} (h : D_hexOf l = some (some u)) : u < 18446744073709551616 := by
  unfold D_hexOf at h
  split at h
  · cases h
  · exact L_hexULt l 0 u h (by omega)

theorem L_w8b (x : Int) : -128 ≤ IntKind.i8.wrap x ∧ IntKind.i8.wrap x ≤ 127 := by
  simp only [IntKind.wrap, IntKind.bits, IntKind.signed]
  simp
  omega

theorem L_readStepsB : ∀ (L : List ByteArray) (o o' : List S89), D_readSteps L o = some o' → D_i8s o → D_u64s o → D_i8s o' ∧ D_u64s o'
  | [], o, o', h, hB, hU => by cases h; exact ⟨hB, hU⟩
  | s :: L, o, o', h, hB, hU => by
    rw [D_readSteps] at h
    split at h
    · split at h
      · rename_i m hm
        split at h
        · rename_i n hn
          have hlt := L_hexOfLt hm
          refine L_readStepsB L _ o' h ?_ ?_
          · intro y hy
            rcases List.mem_append.1 hy with hy | hy
            · exact hB y hy
            · rw [List.mem_singleton] at hy
              subst hy
              exact L_w8b _
          · intro y hy
            rcases List.mem_append.1 hy with hy | hy
            · exact hU y hy
            · rw [List.mem_singleton] at hy
              subst hy
              dsimp only
              omega
        · cases h
      · cases h
    · exact L_readStepsB L o o' h hB hU

theorem L_implLogNo (s : ByteArray) (hs : s.size ≤ 1048576) (h : ∀ P S, D_okLog P S → s.data.toList ≠ D_TL P S) : impl_ReadLog.f s = some ([], [], 5) := by
  obtain ⟨x, _, e1, h3, _⟩ := L_curveBoth _ (L_lineSz s hs)
  unfold impl_ReadLog.f
  rw [if_pos hs, e1]
  simp only [Option.bind_some]
  cases x with
  | none => rfl
  | some P =>
    simp only [D_crvRes, if_true]
    cases hq : D_readSteps ((D_readLines33 s).drop 1) [] with
    | none => rfl
    | some o =>
      obtain ⟨hB, hU⟩ := L_readStepsB _ _ _ hq (fun x hx => by simp at hx) (fun x hx => by simp at hx)
      simp only
      rw [L_implSteps o hB]
      simp only [Option.bind_some]
      by_cases ho : D_steps o
      · have hok : D_okLog P o := ⟨(h3 P rfl).1, ho, hU⟩
        rw [if_pos (decide_eq_true ho), L_implLogTL P o hok (by omega)]
        simp only [Option.bind_some]
        rw [L_mkToList, Lib.toList_data, if_neg (fun e => h P o hok e.symm)]
      · rw [if_neg (by simpa using ho)]

theorem L_nibInv {c : UInt8} {d : Nat} (h : D_nib c = some d) : d < 16 ∧ c = D_hexC d := by
  have hc := c.toNat_lt
  unfold D_nib at h
  split at h
  · cases h
    refine ⟨by omega, UInt8.toNat_inj.1 ?_⟩
    unfold D_hexC D_hexDig
    rw [if_pos (by omega), UInt8.toNat_ofNat']
    omega
  · split at h
    · cases h
      refine ⟨by omega, UInt8.toNat_inj.1 ?_⟩
      unfold D_hexC D_hexDig
      rw [if_neg (by omega), UInt8.toNat_ofNat']
      omega
    · cases h

theorem L_unhexSound : ∀ (l : List UInt8) (a u : Nat), D_unhexL l a = some u → u / 16 ^ l.length = a ∧ l = D_hexN u l.length
  | [], a, u, h => by cases h; exact ⟨by simp, rfl⟩
  | c :: r, a, u, h => by
    rw [D_unhexL] at h
    split at h
    · rename_i d hd
      obtain ⟨h1, h2⟩ := L_unhexSound r _ u h
      obtain ⟨hd1, hd2⟩ := L_nibInv hd
      rw [List.length_cons, Nat.pow_succ, ← Nat.div_div_eq_div_mul, h1, D_hexN, h1, ← h2, show (16 * a + d) % 16 = d by omega, ← hd2]
      exact ⟨by omega, rfl⟩
    · cases h

theorem L_stSound {x : List UInt8} {s : S89} (h : D_stOf x = some s) : x = D_sl s ∧ (0 ≤ s.f0 ∧ s.f0 < 18446744073709551616) ∧ 0 ≤ s.f1 ∧ s.f1 ≤ 36 := by
  unfold D_stOf at h
  split at h
  · rename_i a b hq
    split at h
    · rename_i u hu
      split at hu
      · rename_i h16
        cases hn : D_number b with
        | none => rw [hn] at h; cases h
        | some m =>
          rw [hn] at h
          simp only at h
          split at h
          · cases h
            have hg := L_splitOnGlue 32 x []
            rw [hq] at hg
            simp only [D_glue, List.nil_append] at hg
            obtain ⟨h1, h2⟩ := L_unhexSound a 0 u hu
            rw [h16] at h1 h2
            have h3 : (16 : Nat) ^ 16 = 18446744073709551616 := by decide
            rw [h3] at h1
            unfold D_sl
            dsimp only
            rw [Int.toNat_natCast, Int.toNat_natCast, ← h2, ← (L_numberSound hn).1, ← hg]
            exact ⟨rfl, by omega, by omega⟩
          · cases h
      · cases hu
    · cases h
  · cases h

theorem L_rdStsSound : ∀ (L : List (List UInt8)) (o o' : List S89), D_rdSts L o = some o' → ∃ S, o' = o ++ S ∧ L = S.map D_sl ∧ ∀ s ∈ S, (0 ≤ s.f0 ∧ s.f0 < 18446744073709551616) ∧ 0 ≤ s.f1 ∧ s.f1 ≤ 36
  | [], o, o', h => by cases h; exact ⟨[], by simp, rfl, fun s hs => by simp at hs⟩
  | x :: t, o, o', h => by
    rw [D_rdSts] at h
    split at h
    · rename_i p hp
      obtain ⟨S, e1, e2, hS⟩ := L_rdStsSound t _ o' h
      have h1 := L_stSound hp
      refine ⟨p :: S, by rw [e1]; simp, by rw [List.map_cons, ← e2, ← h1.1], fun s hs => ?_⟩
      rcases List.mem_cons.1 hs with rfl | hs
      · exact h1.2
      · exact hS s hs
    · cases h

theorem L_glueLined (b : UInt8) : ∀ (L : List (List UInt8)), D_glue b (L ++ [[]]) = D_lined b L
  | [] => rfl
  | x :: t => by
    have h := L_glueLined b t
    cases hq : t ++ [[]] with
    | nil => simp at hq
    | cons y u =>
      rw [List.cons_append, hq, D_glue, D_lined, ← h, hq]

theorem L_specLogNo (s : ByteArray) (hs : s.size ≤ 1048576) {k : Nat} (hk : 20000000 ≤ k) (h : ∀ P S, D_okLog P S → s.data.toList ≠ D_TL P S) : spec_ReadLog.f k s = some ([], [], 5) := by
  obtain ⟨x, h3, _, e1⟩ := L_specLogRead s hs hk
  rw [e1]
  have hg := L_splitOnGlue 10 s.data.toList []
  generalize D_splitOn 10 [] s.data.toList = L at *
  split
  · rename_i hc
    cases x with
    | none => rfl
    | some P =>
      simp only
      cases hq : D_rdSts ((L.drop 1).take (L.length - 2)) [] with
      | none => rfl
      | some o =>
        obtain ⟨hP, hh⟩ := h3 P rfl
        obtain ⟨S, e2, e3, hS⟩ := L_rdStsSound _ _ _ hq
        simp only [List.nil_append] at e2 hg
        subst e2
        have hlen : o.length = L.length - 2 := by
          have := congrArg List.length e3
          rw [List.length_take, List.length_drop, List.length_map] at this
          omega
        obtain ⟨l0, rest, rfl⟩ : ∃ l0 rest, L = l0 :: rest := by cases L with | nil => simp at hc | cons a b => exact ⟨a, b, rfl⟩
        simp only [List.headD_cons] at hh
        subst hh
        simp only [List.length_cons, List.drop_succ_cons, List.drop_zero] at e3 hlen hc
        have hr : rest = o.map D_sl ++ [[]] := by
          have hl2 := hc.2
          rw [List.getLast?_cons] at hl2
          have hne : rest ≠ [] := by intro e; rw [e] at hc; simp at hc
          have hgl : rest.getLast hne = [] := by
            rw [List.getLast?_eq_some_getLast hne] at hl2
            simpa using hl2
          have h5 := List.dropLast_concat_getLast hne
          rw [hgl] at h5
          rw [← h5, ← e3, List.dropLast_eq_take]
          congr 2
        refine absurd ?_ (h P o ⟨hP, ⟨fun y hy => (hS y hy).2, by omega⟩, fun y hy => (hS y hy).1⟩)
        rw [← hg, hr]
        unfold D_TL
        rw [← L_glueLined]
        rfl
  · rfl

theorem L_readLogOk (s : ByteArray) (hs : s.size ≤ 1048576) : ∃ P S c, (c = 0 → D_curve P = true ∧ D_steps S) ∧ impl_ReadLog.f s = some (P, S, c) ∧ ∀ k, 20000000 ≤ k → spec_ReadLog.f k s = some (P, S, c) := by
  by_cases h : ∃ P S, D_okLog P S ∧ s.data.toList = D_TL P S
  · obtain ⟨P, S, hl, e⟩ := h
    exact ⟨P, S, 0, fun _ => ⟨hl.1, hl.2.1⟩, L_implLogOf s hs P S hl e, fun k hk => L_specLogOf s hs hk P S hl e⟩
  · have h' : ∀ P S, D_okLog P S → s.data.toList ≠ D_TL P S := fun P S hl e => h ⟨P, S, hl, e⟩
    exact ⟨[], [], 5, fun e => absurd e (by decide), L_implLogNo s hs h', fun k hk => L_specLogNo s hs hk h'⟩

-- L_readLogOk
end Go.Proofs.YtiehbagnebjadaaGreatDoor.PL
