-- Plain lemmas on drawn papers, steps and masks.
import Derived.Test.YticnajjbmdfidaaQx7
import Derived.Test.YticnajjbmdfidaaQx9
import Derived.Test.YticnajjbmdfidaaQx10
import Derived.Test.YticnajjbmdfidaaQx11
import Derived.Test.YticnajjbmdfidaaArrPL
import Derived.Laws.Bits64b
namespace Go.Proofs.Yticnajjbmdfidaa.PL
open Go.RowKit Go.Proofs.Yticnajjbmdfidaa.Q Go.Proofs.YticnajjbmdfidaaW.PrintWords Go.Proofs.YticnajjbmdfidaaW.PrintLast Go.Proofs.YticnajjbmdfidaaW.PrintMore
set_option linter.unusedVariables false
set_option linter.unusedSimpArgs false
theorem L_rdByte {l : List Int} (hl : ∀ x ∈ l, 0 ≤ x ∧ x ≤ 255) (i : Int) : 0 ≤ rd l i ∧ rd l i ≤ 255 := by
  unfold rd
  by_cases h : i.toNat < l.length
  · have := hl _ (List.getElem_mem h)
    simpa [List.getD, List.getElem?_eq_getElem h] using this
  · simp [List.getD, List.getElem?_eq_none (Nat.le_of_not_lt h)]

theorem L_and255 (x : Int) : 0 ≤ Go.bits .and .u64 (IntKind.u64.wrap x / 1099511627776) 255 ∧ Go.bits .and .u64 (IntKind.u64.wrap x / 1099511627776) 255 ≤ 255 := by
  rw [IntKind.wrap_u64]
  obtain ⟨n, hn⟩ : ∃ n : Nat, x % 18446744073709551616 / 1099511627776 = n := ⟨(x % 18446744073709551616 / 1099511627776).toNat, by omega⟩
  have h2 : n < 2 ^ 64 := by omega
  rw [hn, show (255 : Int) = ((255 : Nat) : Int) from rfl, bits_and_u64_nat n 255 (by omega) (by omega)]
  have := Nat.and_le_right (n := n) (m := 255)
  omega

theorem L_next {l : List Int} (hl : ∀ x ∈ l, 0 ≤ x ∧ x ≤ 255) {a : Int} (ha : 0 ≤ a ∧ a ≤ 4611686018427387904) (z : Int) :
    ∃ x y, spec_l00Src_next.f l a z = some (x, a + 1, y) ∧ 0 ≤ x ∧ x ≤ 255 := by
  unfold spec_l00Src_next.f
  have hb := L_rdByte hl a
  rw [L_w (x := a + 1) (by omega), L_w (x := rd l a) (by omega)]
  split
  · rw [if_pos ha.1]
    split
    · exact ⟨_, _, rfl, hb.1, hb.2⟩
    · have := L_and255 ((IntKind.u64.wrap ((IntKind.u64.wrap (z * 6364136223846793005)) + (IntKind.u64.wrap (rd l a)))) + 1442695040888963407)
      rw [L_w (by omega)]
      exact ⟨_, _, rfl, this.1, this.2⟩
  · split
    · exact ⟨_, _, rfl, by omega, by omega⟩
    · have := L_and255 ((IntKind.u64.wrap ((IntKind.u64.wrap (z * 6364136223846793005)))) + 1442695040888963407)
      rw [L_w (by omega)]
      exact ⟨_, _, rfl, this.1, this.2⟩

theorem L_pick {l : List Int} (hl : ∀ x ∈ l, 0 ≤ x ∧ x ≤ 255) {a : Int} (ha : 0 ≤ a ∧ a ≤ 4611686018427387000) (z n : Int) :
    ∃ x b y, spec_l00Src_pick.f l a z n = some (x, b, y) ∧ 0 ≤ x ∧ (x < n ∨ n ≤ 1 ∧ x = 0) ∧ a ≤ b ∧ b ≤ a + 2 := by
  unfold spec_l00Src_pick.f
  split
  · exact ⟨_, _, _, rfl, by omega, by omega, by omega, by omega⟩
  · rename_i hn
    obtain ⟨x, y, e, h1, h2⟩ := L_next hl (a := a) (by omega) z
    rw [e]
    simp only [Option.bind_some]
    split
    · obtain ⟨x', y', e', h1', h2'⟩ := L_next hl (a := a + 1) (by omega) y
      rw [e']
      simp only [Option.bind_some]
      rw [if_neg (by omega), L_w (x := x * 256) (by omega), L_w (x := x * 256 + x') (by omega), Int.tmod_eq_emod_of_nonneg (by omega)]
      exact ⟨_, _, _, rfl, Int.emod_nonneg _ (by omega), Or.inl (Int.emod_lt_of_pos _ (by omega)), by omega, by omega⟩
    · rw [if_neg (by omega), Int.tmod_eq_emod_of_nonneg h1]
      exact ⟨_, _, _, rfl, Int.emod_nonneg _ (by omega), Or.inl (Int.emod_lt_of_pos _ (by omega)), by omega, by omega⟩

def D_rise (o : List S91) : Prop := ∀ j : Int, 0 ≤ j → j < o.length → ((-200 ≤ D_px o j ∧ D_px o j ≤ 200) ∧ 0 ≤ D_py o j ∧ D_py o j ≤ 400) ∧ (j > 0 → D_px o (j - 1) < D_px o j ∧ D_py o (j - 1) ≤ D_py o j)

theorem L_pxLast (o : List S91) (q : S91) : D_px (o ++ [q]) o.length = q.f0 ∧ D_py (o ++ [q]) o.length = q.f1 := by
  obtain ⟨b, e2⟩ := L_rdP (l := o ++ [q]) (i := (o.length : Int)) (by omega) (by simp; omega)
  unfold D_px D_py
  rw [e2]
  simp

theorem L_pxApp (o : List S91) (q : S91) {j : Int} (h0 : 0 ≤ j) (h1 : j < o.length) : D_px (o ++ [q]) j = D_px o j ∧ D_py (o ++ [q]) j = D_py o j := by
  obtain ⟨a, e1⟩ := L_rdP (l := o) (i := j) h0 h1
  obtain ⟨b, e2⟩ := L_rdP (l := o ++ [q]) (i := j) h0 (by simp; omega)
  unfold D_px D_py
  rw [e1, e2, List.getElem_append_left a]
  exact ⟨rfl, rfl⟩

theorem L_riseApp {o : List S91} {x y : Int} (h : D_rise o) (hx : -200 ≤ x ∧ x ≤ 200) (hy : 0 ≤ y ∧ y ≤ 400) (hl : 0 < o.length → D_px o ((o.length : Int) - 1) < x ∧ D_py o ((o.length : Int) - 1) ≤ y) : D_rise (o ++ [⟨x, y⟩]) := by
  intro j h0 h1
  rw [List.length_append] at h1
  simp only [List.length_cons, List.length_nil] at h1
  by_cases e : j = o.length
  · subst e
    obtain ⟨q1, q2⟩ := L_pxLast o ⟨x, y⟩
    rw [q1, q2]
    refine ⟨⟨hx, hy⟩, fun hj => ?_⟩
    obtain ⟨q3, q4⟩ := L_pxApp o ⟨x, y⟩ (j := (o.length : Int) - 1) (by omega) (by omega)
    rw [q3, q4]
    exact hl (by omega)
  · obtain ⟨q1, q2⟩ := L_pxApp o ⟨x, y⟩ (j := j) h0 (by omega)
    rw [q1, q2]
    obtain ⟨a, b⟩ := h j h0 (by omega)
    refine ⟨a, fun hj => ?_⟩
    obtain ⟨q3, q4⟩ := L_pxApp o ⟨x, y⟩ (j := j - 1) (by omega) (by omega)
    rw [q3, q4]
    exact b hj

theorem L_paperRun {l : List Int} (hl : ∀ x ∈ l, 0 ≤ x ∧ x ≤ 255) (e : Nat) : ∀ (k : Nat) (o : List S91) (x y a z : Int), e < k → 0 ≤ a → a + 4 * e ≤ 4611686018427386000 → o.length + e ≤ 6 → -20 ≤ x → x + 9 * e ≤ 80 → 0 ≤ y → y + 50 * e ≤ 400 → D_rise o → (0 < o.length → D_px o ((o.length : Int) - 1) < x ∧ D_py o ((o.length : Int) - 1) ≤ y) →
    ∃ P b w, spec_l02Drawn.l0 k o x y (e : Int) l a z = some (P, b, w) ∧ P.length = o.length + e ∧ D_rise P := by
  induction e with
  | zero =>
    intro k o x y a z hk h0 h1 h2 h3 h4 h5 h6 h7 h8
    obtain ⟨k, rfl⟩ : ∃ q, k = q + 1 := ⟨k - 1, by omega⟩
    simp only [spec_l02Drawn.l0]
    rw [if_neg (by omega)]
    exact ⟨o, a, z, rfl, by omega, h7⟩
  | succ e ih =>
    intro k o x y a z hk h0 h1 h2 h3 h4 h5 h6 h7 h8
    obtain ⟨k, rfl⟩ : ∃ q, k = q + 1 := ⟨k - 1, by omega⟩
    simp only [spec_l02Drawn.l0]
    obtain ⟨u, b, w, e1, u0, u1, b0, b1⟩ := L_pick hl (a := a) (by omega) z 9
    rw [if_pos (by omega), if_pos (by omega), e1]
    simp only [Option.bind_some]
    obtain ⟨u', b', w', e2, u0', u1', b0', b1'⟩ := L_pick hl (a := b) (by omega) w 50
    rw [e2]
    simp only [Option.bind_some]
    rw [L_w16 (x := x) (by omega), L_w16 (x := y) (by omega), L_w (x := 1 + u) (by omega), L_w (x := x + (1 + u)) (by omega), L_w (x := y + u') (by omega), show ((e + 1 : Nat) : Int) - 1 = (e : Int) by omega, L_w (x := (e : Int)) (by omega)]
    obtain ⟨q1, q2⟩ := L_pxLast o ⟨x, y⟩
    obtain ⟨P, c, w2, hP, hP1, hP2⟩ := ih k (o ++ [⟨x, y⟩]) (x + (1 + u)) (y + u') b' w' (by omega) (by omega) (by omega) (by simp; omega) (by omega) (by omega) (by omega) (by omega) (L_riseApp h7 (by omega) (by omega) h8) (fun _ => by
      rw [List.length_append, show ((o.length + [(⟨x, y⟩ : S91)].length : Nat) : Int) - 1 = (o.length : Int) by simp, q1, q2]
      dsimp only
      omega)
    exact ⟨P, c, w2, hP, by simp at hP1; omega, hP2⟩

theorem L_shapeOf (l : List S91) (h : D_rise l) (hne : 0 < l.length) (d : Nat) : ∀ i : Int, 0 ≤ i → i + d = l.length → D_shapeFrom l d i = true := by
  induction d with
  | zero => intro i h0 h1; unfold D_shapeFrom; exact decide_eq_true (by omega)
  | succ d ih =>
    intro i h0 h1
    obtain ⟨a, b⟩ := h i h0 (by omega)
    have r := ih (i + 1) (by omega) (by omega)
    unfold D_shapeFrom
    rw [if_pos a]
    by_cases hi : i > 0
    · have := b hi
      rw [if_pos hi, if_neg (by omega), if_neg (by omega)]
      exact r
    · rw [if_neg hi]
      exact r

theorem L_paperDrawn {l : List Int} (hl : ∀ x ∈ l, 0 ≤ x ∧ x ≤ 255) {n : Nat} (hn : 10 ≤ n) : ∃ P, spec_P6Paper.f n l = some P ∧ D_curve P = true ∧ D_i16s P ∧ P.length ≤ 6 := by
  unfold spec_P6Paper.f spec_l00From.f
  simp only [Option.bind_some]
  unfold spec_l02Drawn.f
  obtain ⟨x, b, w, e1, x0, x1, b0, b1⟩ := L_pick hl (a := 0) (by omega) 0 30
  rw [e1]
  simp only [Option.bind_some]
  obtain ⟨y, b', w', e2, y0, y1, b0', b1'⟩ := L_pick hl (a := b) (by omega) w 20
  rw [e2]
  simp only [Option.bind_some]
  obtain ⟨m, b2, w2, e3, m0, m1, b02, b12⟩ := L_pick hl (a := b') (by omega) w' 6
  rw [e3]
  simp only [Option.bind_some]
  rw [L_w (x := x - 20) (by omega), L_w (x := 1 + m) (by omega)]
  obtain ⟨P, c, w3, hP, hP1, hP2⟩ := L_paperRun hl (1 + m).toNat n [] (x - 20) y b2 w2 (by omega) (by omega) (by omega) (by simp; omega) (by omega) (by omega) (by omega) (by omega) (fun j h0 h1 => by simp at h1; omega) (fun h => by simp at h)
  rw [show (((1 + m).toNat : Nat) : Int) = 1 + m by omega] at hP
  rw [hP]
  simp only [List.length_nil, Nat.zero_add] at hP1
  refine ⟨P, rfl, ?_, ?_, by omega⟩
  · unfold D_curve D_shape
    rw [L_shapeOf P hP2 (by omega) P.length 0 (by omega) (by omega), Bool.true_and]
    exact decide_eq_true (by omega)
  · intro q hq
    obtain ⟨j, hj, rfl⟩ := List.getElem_of_mem hq
    obtain ⟨hi, e⟩ := L_rdP (l := P) (i := (j : Int)) (by omega) (by omega)
    have h := (hP2 j (by omega) (by omega)).1
    unfold D_px D_py at h
    rw [e] at h
    simp only [Int.toNat_natCast] at h
    omega

theorem L_wrapU (x : Int) : 0 ≤ IntKind.u64.wrap x ∧ IntKind.u64.wrap x < 18446744073709551616 := by
  rw [IntKind.wrap_u64]; omega

theorem L_orU (a b : Int) : 0 ≤ Go.bits .or .u64 a b ∧ Go.bits .or .u64 a b < 18446744073709551616 := by
  have h := L_wrapU ((BitVec.ofInt 64 a ||| BitVec.ofInt 64 b).toNat : Int)
  exact h

theorem L_maskRow (x0 x2 x3 y : Int) (h2 : x2 ≤ 50) (e : Nat) : ∀ (k : Nat) (m x : Int), -100 ≤ x → x + e = x2 + 1 → e < k → (0 ≤ m ∧ m < 18446744073709551616) → ∃ m', spec_MaskOf.l1 k x0 x2 x3 m y x = spec_MaskOf.l0 (k - 1 - e) x0 x2 x3 m' (wrap64 (y + 1)) ∧ 0 ≤ m' ∧ m' < 18446744073709551616 := by
  induction e with
  | zero =>
    intro k m x hx h1 hk hm
    obtain ⟨k, rfl⟩ : ∃ q, k = q + 1 := ⟨k - 1, by omega⟩
    simp only [spec_MaskOf.l1]
    rw [if_neg (by omega)]
    exact ⟨m, rfl, hm⟩
  | succ e ih =>
    intro k m x hx h1 hk hm
    obtain ⟨k, rfl⟩ : ∃ q, k = q + 1 := ⟨k - 1, by omega⟩
    simp only [spec_MaskOf.l1]
    unfold spec_l03Bit.f
    rw [if_pos (by omega), if_pos (L_wrapU _).1]
    simp only [Option.bind_some]
    rw [L_w (x := x + 1) (by omega)]
    obtain ⟨m', e1, e2⟩ := ih k (Go.bits .or .u64 m (shl .u64 1 (IntKind.u64.wrap (wrap64 (x + (wrap64 (8 * y))))))) (x + 1) (by omega) (by omega) (by omega) (L_orU _ _)
    refine ⟨m', ?_, e2⟩
    rw [e1]
    congr 1
    omega

theorem L_maskRows (x0 x2 x3 : Int) (h0 : 0 ≤ x0) (h1 : x0 ≤ x2) (h2 : x2 ≤ 7) (e : Nat) : ∀ (k : Nat) (m y : Int), (0 ≤ y ∧ y ≤ 100) → y + e = x3 + 1 → x3 ≤ 7 → 12 * e < k → (0 ≤ m ∧ m < 18446744073709551616) → ∃ r, spec_MaskOf.l0 k x0 x2 x3 m y = some (r, 0) ∧ 0 ≤ r ∧ r < 18446744073709551616 := by
  induction e with
  | zero =>
    intro k m y hy h3 h4 hk hm
    obtain ⟨k, rfl⟩ : ∃ q, k = q + 1 := ⟨k - 1, by omega⟩
    simp only [spec_MaskOf.l0]
    rw [if_neg (by omega)]
    exact ⟨m, rfl, hm⟩
  | succ e ih =>
    intro k m y hy h3 h4 hk hm
    obtain ⟨k, rfl⟩ : ∃ q, k = q + 1 := ⟨k - 1, by omega⟩
    simp only [spec_MaskOf.l0]
    rw [if_pos (by omega)]
    obtain ⟨m', e1, e2⟩ := L_maskRow x0 x2 x3 y (by omega) (x2 + 1 - x0).toNat k m x0 (by omega) (by omega) (by omega) hm
    rw [e1, L_w (x := y + 1) (by omega)]
    exact ih _ m' (y + 1) (by omega) (by omega) h4 (by omega) e2

theorem L_shlU (x y : Int) : 0 ≤ shl .u64 x y ∧ shl .u64 x y < 18446744073709551616 := by
  unfold shl
  exact L_wrapU _

theorem L_maskDrawn {l : List Int} (hl : ∀ x ∈ l, 0 ≤ x ∧ x ≤ 255) {n : Nat} (hn : 200 ≤ n) {a : Int} (ha : 0 ≤ a ∧ a ≤ 4611686018427386000) (z : Int) : ∃ m b w, spec_l03Mask.f n l a z = some (m, b, w) ∧ (0 ≤ m ∧ m < 18446744073709551616) ∧ a ≤ b ∧ b ≤ a + 20 := by
  unfold spec_l03Mask.f
  obtain ⟨c, b, w, e1, c0, c1, b0, b1⟩ := L_pick hl (a := a) (by omega) z 4
  rw [e1]
  simp only [Option.bind_some]
  by_cases h0 : c = 0
  · rw [if_pos h0]; exact ⟨_, _, _, rfl, by omega, by omega, by omega⟩
  · rw [if_neg h0]
    by_cases h1 : c = 1
    · rw [if_pos h1]
      obtain ⟨x, b2, w2, e2, x0, x1, b02, b12⟩ := L_pick hl (a := b) (by omega) w 8
      rw [e2]
      simp only [Option.bind_some]
      obtain ⟨y, b3, w3, e3, y0, y1, b03, b13⟩ := L_pick hl (a := b2) (by omega) w2 8
      rw [e3]
      simp only [Option.bind_some]
      rw [L_w (x := 8 - x) (by omega), L_w (x := 8 - y) (by omega)]
      obtain ⟨p, b4, w4, e4, p0, p1, b04, b14⟩ := L_pick hl (a := b3) (by omega) w3 (8 - x)
      rw [e4]
      simp only [Option.bind_some]
      obtain ⟨q, b5, w5, e5, q0, q1, b05, b15⟩ := L_pick hl (a := b4) (by omega) w4 (8 - y)
      rw [e5]
      simp only [Option.bind_some]
      rw [L_w (x := x + p) (by omega), L_w (x := y + q) (by omega)]
      obtain ⟨k, rfl⟩ : ∃ k, n = k + 1 := ⟨n - 1, by omega⟩
      unfold spec_MaskOf.f spec_l03Place.f
      simp only [L_in, Option.bind_some, decide_eq_true_eq]
      rw [if_pos (by omega), if_pos (by omega), if_pos (by omega), if_pos (by omega), if_neg (by omega), decide_eq_false (by omega)]
      obtain ⟨r, hr, hr2⟩ := L_maskRows x (x + p) (y + q) (by omega) (by omega) (by omega) (q + 1).toNat k 0 y (by omega) (by omega) (by omega) (by omega) (by omega)
      simp only [spec_MaskOf.j0, Bool.false_eq_true, if_false]
      rw [hr]
      exact ⟨r, b5, w5, rfl, hr2, by omega, by omega⟩
    · rw [if_neg h1]
      by_cases h2 : c = 2
      · rw [if_pos h2]
        obtain ⟨x, b2, w2, e2, x0, x1, b02, b12⟩ := L_pick hl (a := b) (by omega) w 64
        rw [e2]
        simp only [Option.bind_some]
        rw [if_pos (L_wrapU _).1]
        exact ⟨_, _, _, rfl, L_shlU _ _, by omega, by omega⟩
      · rw [if_neg h2]
        obtain ⟨x, b2, w2, e2, x0, x1, b02, b12⟩ := L_pick hl (a := b) (by omega) w 1073741824
        rw [e2]
        simp only [Option.bind_some]
        obtain ⟨y, b3, w3, e3, y0, y1, b03, b13⟩ := L_pick hl (a := b2) (by omega) w2 1073741824
        rw [e3]
        simp only [Option.bind_some]
        exact ⟨_, _, _, rfl, L_orU _ _, by omega, by omega⟩

theorem L_stepsRun {l : List Int} (hl : ∀ x ∈ l, 0 ≤ x ∧ x ≤ 255) (e : Nat) : ∀ (k : Nat) (o : List S76) (a z : Int), e + 200 < k → 0 ≤ a → a + 30 * e ≤ 4611686018427386000 → o.length + e ≤ 1000 → (∀ x ∈ o, (0 ≤ x.f0 ∧ x.f0 < 18446744073709551616) ∧ 0 ≤ x.f1 ∧ x.f1 ≤ 19) →
    ∃ A, spec_P6Steps.l0 k o (e : Int) l a z = some A ∧ A.length = o.length + e ∧ ∀ x ∈ A, (0 ≤ x.f0 ∧ x.f0 < 18446744073709551616) ∧ 0 ≤ x.f1 ∧ x.f1 ≤ 19 := by
  induction e with
  | zero =>
    intro k o a z hk h0 h1 h2 h3
    obtain ⟨k, rfl⟩ : ∃ q, k = q + 1 := ⟨k - 1, by omega⟩
    simp only [spec_P6Steps.l0]
    rw [if_neg (by omega)]
    exact ⟨o, rfl, by omega, h3⟩
  | succ e ih =>
    intro k o a z hk h0 h1 h2 h3
    obtain ⟨k, rfl⟩ : ∃ q, k = q + 1 := ⟨k - 1, by omega⟩
    simp only [spec_P6Steps.l0]
    obtain ⟨m, b, y, e1, m0, b0, b1⟩ := L_maskDrawn hl (n := k) (by omega) (a := a) (by omega) z
    rw [if_pos (by omega), e1]
    simp only [Option.bind_some]
    obtain ⟨x', b', y', e2, x0', x1', b0', b1'⟩ := L_pick hl (a := b) (by omega) y 20
    rw [e2]
    simp only [Option.bind_some]
    rw [if_pos (by omega), L_w8 (x := x') (by omega), show ((e + 1 : Nat) : Int) - 1 = (e : Int) by omega, L_w (x := (e : Int)) (by omega)]
    obtain ⟨A, hA, hA1, hA2⟩ := ih k (o ++ [⟨m, x'⟩]) b' y' (by omega) (by omega) (by omega) (by simp; omega) (fun q hq => by
      rcases List.mem_append.1 hq with h | h
      · exact h3 q h
      · obtain rfl := List.mem_singleton.1 h; exact ⟨m0, x0', by show x' ≤ 19; omega⟩)
    exact ⟨A, hA, by simp at hA1; omega, hA2⟩

theorem L_p6Steps {l : List Int} (hl : ∀ x ∈ l, 0 ≤ x ∧ x ≤ 255) {n : Nat} (hn : 300 ≤ n) : ∃ A, spec_P6Steps.f n l = some A ∧ A.length ≤ 4 ∧ ∀ x ∈ A, (0 ≤ x.f0 ∧ x.f0 < 18446744073709551616) ∧ 0 ≤ x.f1 ∧ x.f1 ≤ 19 := by
  unfold spec_P6Steps.f spec_l00From.f
  simp only [Option.bind_some]
  obtain ⟨x, b, y, e1, x0, x1, b0, b1⟩ := L_pick hl (a := 0) (by omega) 0 5
  rw [e1]
  simp only [Option.bind_some]
  obtain ⟨A, hA, hA1, hA2⟩ := L_stepsRun hl x.toNat n [] b y (by omega) (by omega) (by omega) (by simp; omega) (by simp)
  rw [show ((x.toNat : Nat) : Int) = x by omega] at hA
  exact ⟨A, hA, by simp at hA1; omega, hA2⟩

theorem L_xorU (a b : Int) : 0 ≤ Go.bits .xor .u64 a b ∧ Go.bits .xor .u64 a b < 18446744073709551616 := by
  have h := L_wrapU ((BitVec.ofInt 64 a ^^^ BitVec.ofInt 64 b).toNat : Int)
  exact h

theorem L_maskedRun {l : List Int} (hl : ∀ x ∈ l, 0 ≤ x ∧ x ≤ 255) (e : Nat) : ∀ (k : Nat) (m a z : Int), e + 200 < k → 0 ≤ a → a + 30 * e ≤ 4611686018427386000 → e ≤ 100 → (0 ≤ m ∧ m < 18446744073709551616) → ∃ r b w, spec_l07Masked.l0 k m (e : Int) l a z = some (r, b, w) ∧ 0 ≤ r ∧ r < 18446744073709551616 := by
  induction e with
  | zero =>
    intro k m a z hk h0 h1 h2 hm
    obtain ⟨k, rfl⟩ : ∃ q, k = q + 1 := ⟨k - 1, by omega⟩
    simp only [spec_l07Masked.l0]
    rw [if_neg (by omega)]
    exact ⟨m, a, z, rfl, hm⟩
  | succ e ih =>
    intro k m a z hk h0 h1 h2 hm
    obtain ⟨k, rfl⟩ : ∃ q, k = q + 1 := ⟨k - 1, by omega⟩
    simp only [spec_l07Masked.l0]
    obtain ⟨m', b, y, e1, m0, b0, b1⟩ := L_maskDrawn hl (n := k) (by omega) (a := a) (by omega) z
    rw [if_pos (by omega), e1]
    simp only [Option.bind_some]
    rw [show ((e + 1 : Nat) : Int) - 1 = (e : Int) by omega, L_w (x := (e : Int)) (by omega)]
    exact ih k _ b y (by omega) (by omega) (by omega) (by omega) (L_xorU _ _)

theorem L_p6Mask {l : List Int} (hl : ∀ x ∈ l, 0 ≤ x ∧ x ≤ 255) {n : Nat} (hn : 300 ≤ n) : ∃ m, spec_P6Mask.f n l = some m ∧ 0 ≤ m ∧ m < 18446744073709551616 := by
  unfold spec_P6Mask.f spec_l00From.f
  simp only [Option.bind_some]
  unfold spec_l07Masked.f
  obtain ⟨m, b, y, e1, m0, b0, b1⟩ := L_maskDrawn hl (n := n) (by omega) (a := 0) (by omega) 0
  rw [e1]
  simp only [Option.bind_some]
  obtain ⟨x, b2, y2, e2, x0, x1, b02, b12⟩ := L_pick hl (a := b) (by omega) y 4
  rw [e2]
  simp only [Option.bind_some]
  obtain ⟨r, b3, w3, hr, hr2⟩ := L_maskedRun hl x.toNat n m b2 y2 (by omega) (by omega) (by omega) (by omega) m0
  rw [show ((x.toNat : Nat) : Int) = x by omega] at hr
  rw [hr]
  exact ⟨r, rfl, hr2⟩

theorem L_p6Pick {l : List Int} (hl : ∀ x ∈ l, 0 ≤ x ∧ x ≤ 255) (n : Int) (hn : 1 ≤ n) : ∃ r, spec_P6Pick.f l n = some r ∧ 0 ≤ r ∧ r < n := by
  obtain ⟨x, b, y, e, h0, h1, _, _⟩ := L_pick hl (a := 0) (by omega) 0 n
  refine ⟨x, ?_, h0, by omega⟩
  unfold spec_P6Pick.f spec_l00From.f
  simp only [Option.bind_some]
  rw [e]
  rfl


-- L_paperDrawn L_p6Steps L_p6Mask L_p6Pick
end Go.Proofs.Yticnajjbmdfidaa.PL
