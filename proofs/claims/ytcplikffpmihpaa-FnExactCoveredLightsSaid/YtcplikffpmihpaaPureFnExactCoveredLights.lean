/- The plain law of FnExactCoveredLights: the printed function of the law answers true for all arguments within their kinds' bounds. No condition besides. -/
import Derived.Test.YtcplikffpmihpaaQx28
namespace Go.Proofs.Ytcplikffpmihpaa.Pure
open Go.RowKit Go.Proofs.Ytcplikffpmihpaa.Q Go.Proofs.YtcplikffpmihpaaW.PrintWords Go.Proofs.YtcplikffpmihpaaW.PrintLast Go.Proofs.YtcplikffpmihpaaW.PrintMore
set_option linter.unusedVariables false
set_option linter.unusedSimpArgs false
def D_strip (a b c : Int) : Prop := 0 ≤ a ∧ a ≤ 36 ∧ 1 ≤ b ∧ b ≤ 9 ∧ 1 ≤ c ∧ c ≤ 20 ∧ a + b * (c - 1) ≤ 36
instance (a b c : Int) : Decidable (D_strip a b c) := by unfold D_strip; infer_instance

def D_inFrom (s : Int) : Nat → Int → Int
  | 0, i => i
  | d + 1, i => if tmv (i + 1) ≤ s then D_inFrom s d (i + 1) else i

def D_in (s : Int) : Int := D_inFrom s 37 (-1)

def D_coverFrom : List Int → Int → List Int
  | [], _ => []
  | x :: t, s => D_in (s + tmv x) :: D_coverFrom t (s + tmv x)

def D_lightsFrom (a b : Int) : Nat → Int → List Int
  | 0, _ => []
  | d + 1, i => (a + i * b) :: D_lightsFrom a b d (i + 1)

def D_lights (a b c : Int) : List Int := D_lightsFrom a b c.toNat 0

theorem L_coverLen : ∀ (l : List Int) (s : Int), (D_coverFrom l s).length = l.length
  | [], _ => rfl
  | x :: t, s => by simp [D_coverFrom, L_coverLen t]

theorem L_lightsFromLen (a b : Int) (d : Nat) : ∀ i, (D_lightsFrom a b d i).length = d := by
  induction d with
  | zero => intro i; rfl
  | succ d ih => intro i; simp [D_lightsFrom, ih]

theorem L_lightsLen {a b c : Int} (h : D_strip a b c) : (D_lights a b c).length ≤ 20 := by
  unfold D_lights; rw [L_lightsFromLen]; unfold D_strip at h; omega

theorem L_w {x : Int} (h : -9223372036854775808 ≤ x ∧ x ≤ 9223372036854775807) : wrap64 x = x := by unfold wrap64; omega

theorem L_sd {p q : Prop} [Decidable p] [Decidable q] (h : p ↔ q) : some (decide p) = some (decide q) := by rw [decide_eq_decide.mpr h]

theorem L_sf {q : Prop} [Decidable q] (h : ¬ q) : some false = some (decide q) := by rw [decide_eq_false h]

theorem L_in (a b c : Int) : spec_l00In.f a b c = some (decide (b ≤ a ∧ a ≤ c)) := by
  unfold spec_l00In.f
  split
  · exact L_sd (by omega)
  · exact L_sf (by omega)

theorem L_specThirds (a : Int) : spec_l03Thirds.f a = some (decide (0 ≤ a ∧ a ≤ 36)) := by
  unfold spec_l03Thirds.f; rw [L_in]; rfl

theorem L_mulb {x y X Y : Int} (h : 0 ≤ x) (hx : x ≤ X) (k : 0 ≤ y) (ky : y ≤ Y) : 0 ≤ x * y ∧ x * y ≤ X * Y :=
  ⟨Int.mul_nonneg h k, Int.mul_le_mul hx ky k (Int.le_trans h hx)⟩

theorem L_stripb {b c : Int} (hb : 1 ≤ b ∧ b ≤ 9) (hc : 1 ≤ c ∧ c ≤ 20) : 0 ≤ b * (c - 1) ∧ b * (c - 1) ≤ 171 := by
  have := L_mulb (x := b) (y := c - 1) (X := 9) (Y := 19) (by omega) (by omega) (by omega) (by omega)
  omega

theorem L_strip {a b c : Int} (ha : -128 ≤ a ∧ a ≤ 127) (hb : -128 ≤ b ∧ b ≤ 127) (hc : -128 ≤ c ∧ c ≤ 127) : spec_l05Ok.f a b c = some (decide (D_strip a b c)) := by
  unfold spec_l05Ok.f
  rw [L_w (x := a) (by omega), L_w (x := b) (by omega), L_w (x := c) (by omega)]
  simp only [L_specThirds, L_in, Option.bind_some, decide_eq_true_eq]
  unfold D_strip
  by_cases h1 : 0 ≤ a ∧ a ≤ 36
  · by_cases h2 : 1 ≤ b ∧ b ≤ 9
    · by_cases h3 : 1 ≤ c ∧ c ≤ 20
      · have := L_stripb h2 h3
        rw [if_pos h1, if_pos h2, if_pos h3, L_w (x := c - 1) (by omega), L_w (x := b * (c - 1)) (by omega), L_w (x := a + b * (c - 1)) (by omega)]
        exact L_sd (by omega)
      · rw [if_pos h1, if_pos h2, if_neg h3]; exact L_sf (by omega)
    · rw [if_pos h1, if_neg h2]; exact L_sf (by omega)
  · rw [if_neg h1]; exact L_sf (by omega)

theorem L_lightsFromMem {a b : Int} (d : Nat) : ∀ (i j : Nat), j < d → (D_lightsFrom a b d i)[j]? = some (a + ((i + j : Nat) : Int) * b) := by
  induction d with
  | zero => intro i j h; omega
  | succ d ih =>
    intro i j h
    cases j with
    | zero => simp [D_lightsFrom]
    | succ j =>
      simp only [D_lightsFrom, List.getElem?_cons_succ]
      have := ih (i + 1) j (by omega)
      rw [show ((i : Int) + 1) = ((i + 1 : Nat) : Int) by omega, this]
      congr 3; omega

theorem L_lightsRange {a b c : Int} (h : D_strip a b c) : ∀ x ∈ D_lights a b c, 0 ≤ x ∧ x ≤ 36 := by
  intro x hx
  unfold D_strip at h
  obtain ⟨j, hj, rfl⟩ := List.mem_iff_getElem.1 hx
  have hl : j < c.toNat := by unfold D_lights at hj; rw [L_lightsFromLen] at hj; exact hj
  have e := L_lightsFromMem (a := a) (b := b) c.toNat 0 j hl
  have e2 : (D_lights a b c)[j]? = some (a + (((0 : Nat) + j : Nat) : Int) * b) := e
  rw [List.getElem?_eq_getElem hj] at e2
  have e3 := Option.some.inj e2
  have h1 := L_mulb (x := (j : Int)) (y := b) (X := c - 1) (Y := b) (by omega) (by omega) (by omega) (by omega)
  have h2 : (c - 1) * b = b * (c - 1) := Int.mul_comm _ _
  simp only [Nat.zero_add] at e3
  omega

theorem L_specLightsFrom {a b c : Int} (h : D_strip a b c) (d : Nat) : ∀ (k : Nat) (l : List Int) (i : Int), 0 ≤ i → i + d = c → l.length ≤ 100 - d → d < k → spec_l05Lights.l0 k l i a b c = some (l ++ D_lightsFrom a b d i) := by
  have hh := h
  unfold D_strip at hh
  induction d with
  | zero =>
    intro k l i h0 hd hl hk
    obtain ⟨k, rfl⟩ : ∃ m, k = m + 1 := ⟨k - 1, by omega⟩
    simp only [spec_l05Lights.l0, D_lightsFrom]
    rw [L_w (x := c) (by omega), if_neg (by omega)]; simp
  | succ d ih =>
    intro k l i h0 hd hl hk
    obtain ⟨k, rfl⟩ : ∃ m, k = m + 1 := ⟨k - 1, by omega⟩
    have hm := L_mulb (x := i) (y := b) (X := 20) (Y := 9) (by omega) (by omega) (by omega) (by omega)
    simp only [spec_l05Lights.l0, D_lightsFrom]
    rw [L_w (x := c) (by omega), if_pos (by omega), if_pos (by omega), L_w (x := a) (by omega), L_w (x := b) (by omega), L_w (x := i * b) (by omega), L_w (x := a + i * b) (by omega), L_w (x := i + 1) (by omega),
      ih k _ (i + 1) (by omega) (by omega) (by simp; omega) (by omega)]
    simp

theorem L_specLights {a b c : Int} (h : D_strip a b c) {k : Nat} (hk : 21 ≤ k) : spec_l05Lights.f k a b c = some (D_lights a b c) := by
  have hh := h
  unfold D_strip at hh
  unfold spec_l05Lights.f
  rw [L_specLightsFrom h c.toNat k [] 0 (by omega) (by omega) (Nat.zero_le _) (by omega)]; rfl

theorem L_tmvAll : ∀ n : Nat, n < 37 → 1000 ≤ tmv n ∧ tmv n ≤ 4096000 := by decide

theorem L_tmv {k : Int} (h : 0 ≤ k ∧ k ≤ 36) : 1000 ≤ tmv k ∧ tmv k ≤ 4096000 := by
  obtain ⟨n, rfl⟩ : ∃ n : Nat, k = n := ⟨k.toNat, by omega⟩
  exact L_tmvAll n (by omega)

theorem L_specTimeAll : ∀ n : Nat, n < 37 → spec_l01Time.f n = some (tmv n) := by decide +kernel

theorem L_specTime {k : Int} (h : 0 ≤ k ∧ k ≤ 36) : spec_l01Time.f k = some (tmv k) := by
  obtain ⟨n, rfl⟩ : ∃ n : Nat, k = n := ⟨k.toNat, by omega⟩
  exact L_specTimeAll n (by omega)

theorem L_specInFrom (s : Int) (d : Nat) : ∀ (k : Nat) (i : Int), -1 ≤ i → i + d = 36 → d < k → spec_l01In.l0 k s i = some (D_inFrom s d i) := by
  induction d with
  | zero =>
    intro k i h0 hd hk
    obtain ⟨k, rfl⟩ : ∃ m, k = m + 1 := ⟨k - 1, by omega⟩
    simp only [spec_l01In.l0, D_inFrom]; rw [if_neg (by omega)]
  | succ d ih =>
    intro k i h0 hd hk
    obtain ⟨k, rfl⟩ : ∃ m, k = m + 1 := ⟨k - 1, by omega⟩
    simp only [spec_l01In.l0, D_inFrom]
    rw [if_pos (by omega), L_w (x := i + 1) (by omega), L_specTime (by omega)]
    simp only [Option.bind_some]
    by_cases h : tmv (i + 1) ≤ s
    · rw [if_pos h, if_pos h]; exact ih k (i + 1) (by omega) (by omega) (by omega)
    · rw [if_neg h, if_neg h]

theorem L_specIn (s : Int) {k : Nat} (hk : 38 ≤ k) : spec_l01In.f k s = some (D_in s) :=
  L_specInFrom s 37 k (-1) (by omega) (by omega) (by omega)

theorem L_specCover (n : Nat) (hlen : n ≤ 20) (d : Nat) : ∀ (k : Nat) (L : List Int) (s i : Int), L.length = n → (∀ j : Nat, i.toNat ≤ j → ∀ h : j < L.length, 0 ≤ L[j] ∧ L[j] ≤ 36) → 0 ≤ i → i + d = n → 0 ≤ s → s ≤ 4096000 * i → d + 40 ≤ k →
    spec_l05Covered.l0 k L s i = some (L.take i.toNat ++ D_coverFrom (L.drop i.toNat) s) := by
  induction d with
  | zero =>
    intro k L s i hl hL h0 hd hs hs2 hk
    obtain ⟨k, rfl⟩ : ∃ m, k = m + 1 := ⟨k - 1, by omega⟩
    simp only [spec_l05Covered.l0]
    rw [if_neg (by omega), List.drop_eq_nil_of_le (by omega), List.take_of_length_le (by omega)]
    simp [D_coverFrom]
  | succ d ih =>
    intro k L s i hl hL h0 hd hs hs2 hk
    obtain ⟨k, rfl⟩ : ∃ m, k = m + 1 := ⟨k - 1, by omega⟩
    have hi : i.toNat < L.length := by omega
    have hr : rd L i = L[i.toNat]'hi := by unfold rd; rw [List.getD_eq_getElem?_getD, List.getElem?_eq_getElem hi]; rfl
    have hx := hL i.toNat (Nat.le_refl _) hi
    rw [← hr] at hx
    have ht := L_tmv hx
    simp only [spec_l05Covered.l0]
    rw [if_pos (by omega), if_pos h0, L_specTime hx]
    simp only [Option.bind_some]
    rw [L_w (x := s + tmv (rd L i)) (by omega), L_specIn _ (by omega)]
    simp only [Option.bind_some]
    rw [L_w (x := i + 1) (by omega), ih k _ _ (i + 1) (by simpa using hl) (fun j hj h => by
        rw [List.length_set] at h
        rw [List.getElem_set_ne (by omega)]
        exact hL j (by omega) h) (by omega) (by omega) (by omega) (by omega) (by omega)]
    rw [show (i + 1).toNat = i.toNat + 1 by omega, List.drop_set_of_lt (by omega), List.drop_eq_getElem_cons hi, ← hr, List.take_succ_eq_append_getElem (by simpa using hi)]
    simp [D_coverFrom, List.take_set_of_le]

theorem L_implLightsFrom {a b c : Int} (h : D_strip a b c) (d : Nat) : ∀ (k : Nat) (l : List Int) (i : Int), 0 ≤ i → i + d = c → l.length ≤ 100 - d → d < k → impl_Strip_lights.l0 k l c i a b c = some (l ++ D_lightsFrom a b d i) := by
  have hh := h
  unfold D_strip at hh
  induction d with
  | zero =>
    intro k l i h0 hd hl hk
    obtain ⟨k, rfl⟩ : ∃ m, k = m + 1 := ⟨k - 1, by omega⟩
    simp only [impl_Strip_lights.l0, D_lightsFrom]
    rw [if_neg (by omega)]; simp
  | succ d ih =>
    intro k l i h0 hd hl hk
    obtain ⟨k, rfl⟩ : ∃ m, k = m + 1 := ⟨k - 1, by omega⟩
    have hm := L_mulb (x := i) (y := b) (X := 20) (Y := 9) (by omega) (by omega) (by omega) (by omega)
    have hc : b * i = i * b := Int.mul_comm _ _
    simp only [impl_Strip_lights.l0, D_lightsFrom, impl_Strip_light.f, Option.bind_some]
    rw [if_pos (by omega), if_pos (by omega), L_w (x := a) (by omega), L_w (x := b) (by omega), hc, L_w (x := i * b) (by omega), L_w (x := a + i * b) (by omega), L_w (x := i + 1) (by omega),
      ih k _ (i + 1) (by omega) (by omega) (by simp; omega) (by omega)]
    simp

theorem L_implLights {a b c : Int} (h : D_strip a b c) {k : Nat} (hk : 21 ≤ k) : impl_Strip_lights.f k a b c = some (D_lights a b c) := by
  have hh := h
  unfold D_strip at hh
  unfold impl_Strip_lights.f
  rw [L_w (x := c) (by omega), L_implLightsFrom h c.toNat k [] 0 (by omega) (by omega) (Nat.zero_le _) (by omega)]; rfl

theorem L_timeOf {k : Int} (h : 0 ≤ k ∧ k ≤ 36) : impl_timeOf.f k = some (tmv k) := by
  unfold impl_timeOf.f; rw [if_pos h.1, if_pos h.2]

theorem L_within (a b c : Int) : impl_within.f a b c = some (decide (b ≤ a ∧ a ≤ c)) := by
  unfold impl_within.f
  split
  · exact L_sd (by omega)
  · exact L_sf (by omega)

theorem L_inFrom (s : Int) (d : Nat) : ∀ i : Int, -1 ≤ i → i + d = 36 → (0 ≤ i → tmv i ≤ s) → i ≤ D_inFrom s d i ∧ D_inFrom s d i ≤ 36 ∧ (0 ≤ D_inFrom s d i → tmv (D_inFrom s d i) ≤ s) ∧ (D_inFrom s d i < 36 → s < tmv (D_inFrom s d i + 1)) := by
  induction d with
  | zero => intro i h0 hd h; unfold D_inFrom; exact ⟨by omega, by omega, h, fun h => by omega⟩
  | succ d ih =>
    intro i h0 hd h
    unfold D_inFrom
    split
    · rename_i hle
      obtain ⟨h1, h2, h3, h4⟩ := ih (i + 1) (by omega) (by omega) (fun _ => hle)
      exact ⟨by omega, h2, h3, h4⟩
    · rename_i hgt
      exact ⟨by omega, by omega, h, fun _ => by omega⟩

theorem L_inSpec (s : Int) : -1 ≤ D_in s ∧ D_in s ≤ 36 ∧ (0 ≤ D_in s → tmv (D_in s) ≤ s) ∧ (D_in s < 36 → s < tmv (D_in s + 1)) :=
  L_inFrom s 37 (-1) (by omega) (by omega) (fun h => by omega)

theorem L_tmvMonoAll : ∀ i : Nat, i < 37 → ∀ j : Nat, j < 37 → i ≤ j → tmv i ≤ tmv j := by decide +kernel

theorem L_tmvMono {i j : Int} (h0 : 0 ≤ i) (h : i ≤ j) (h1 : j ≤ 36) : tmv i ≤ tmv j := by
  obtain ⟨n, rfl⟩ : ∃ n : Nat, i = n := ⟨i.toNat, by omega⟩
  obtain ⟨m, rfl⟩ : ∃ m : Nat, j = m := ⟨j.toNat, by omega⟩
  exact L_tmvMonoAll n (by omega) m (by omega) (by omega)

theorem L_inUnique {s k : Int} (h0 : -1 ≤ k ∧ k ≤ 36) (h1 : 0 ≤ k → tmv k ≤ s) (h2 : k < 36 → s < tmv (k + 1)) : k = D_in s := by
  obtain ⟨a, b, c, d⟩ := L_inSpec s
  rcases Int.lt_trichotomy k (D_in s) with h | h | h
  · have e := L_tmvMono (i := k + 1) (j := D_in s) (by omega) (by omega) b
    have := h2 (by omega)
    have := c (by omega)
    omega
  · exact h
  · have e := L_tmvMono (i := D_in s + 1) (j := k) (by omega) (by omega) h0.2
    have := d (by omega)
    have := h1 (by omega)
    omega

theorem L_thirdsInDown (s : Int) (hs : 1000 ≤ s) (d : Nat) : ∀ (k : Nat) (i : Int), i = d → i ≤ 36 → d < k → (i < 36 → s < tmv (i + 1)) → impl_ThirdsIn.l0 k s i = some (D_in s, 0) := by
  induction d with
  | zero =>
    intro k i hi h36 hk h
    obtain ⟨k, rfl⟩ : ∃ m, k = m + 1 := ⟨k - 1, by omega⟩
    obtain rfl : i = 0 := by omega
    have h0 : tmv 0 = 1000 := by decide
    simp only [impl_ThirdsIn.l0]
    rw [L_timeOf (by omega)]
    simp only [Option.bind_some]
    rw [if_neg (by omega), L_inUnique (s := s) (k := 0) (by omega) (fun _ => by omega) h]
  | succ d ih =>
    intro k i hi h36 hk h
    obtain ⟨k, rfl⟩ : ∃ m, k = m + 1 := ⟨k - 1, by omega⟩
    simp only [impl_ThirdsIn.l0]
    rw [L_timeOf (by omega)]
    simp only [Option.bind_some]
    by_cases hc : tmv i > s
    · rw [if_pos hc, L_w (x := i - 1) (by omega)]
      exact ih k (i - 1) (by omega) (by omega) (by omega) (fun _ => by rw [show i - 1 + 1 = i by omega]; omega)
    · rw [if_neg hc, L_inUnique (s := s) (k := i) (by omega) (fun _ => by omega) h]

theorem L_thirdsIn {s : Int} (hs : 1000 ≤ s ∧ s ≤ 100000000) {k : Nat} (hk : 37 ≤ k) : impl_ThirdsIn.f k s = some (D_in s, 0) := by
  unfold impl_ThirdsIn.f impl_areMilliseconds.f
  rw [L_within]
  simp only [Option.bind_some, decide_eq_true_eq]
  rw [if_pos (by omega), L_timeOf (by omega)]
  simp only [Option.bind_some]
  rw [if_neg (by have : tmv 0 = 1000 := by decide
                 omega)]
  exact L_thirdsInDown s hs.1 36 k 36 rfl (by omega) (by omega) (fun h => by omega)


theorem L_implCover (L : List Int) (hL : ∀ x ∈ L, 0 ≤ x ∧ x ≤ 36) (hlen : L.length ≤ 20) (d : Nat) : ∀ (k : Nat) (out : List Int) (s i : Int), 0 ≤ i → i + d = L.length → 0 ≤ s → s ≤ 4096000 * i → out.length ≤ i → d + 40 ≤ k →
    impl_Strip_covered.l0 k out s L (L.length : Int) i = some (out ++ D_coverFrom (L.drop i.toNat) s) := by
  induction d with
  | zero =>
    intro k out s i h0 hd hs hs2 ho hk
    obtain ⟨k, rfl⟩ : ∃ m, k = m + 1 := ⟨k - 1, by omega⟩
    simp only [impl_Strip_covered.l0]
    rw [if_neg (by omega), List.drop_eq_nil_of_le (by omega)]
    simp [D_coverFrom]
  | succ d ih =>
    intro k out s i h0 hd hs hs2 ho hk
    obtain ⟨k, rfl⟩ : ∃ m, k = m + 1 := ⟨k - 1, by omega⟩
    have hi : i.toNat < L.length := by omega
    have hr : rd L i = L[i.toNat]'hi := by unfold rd; rw [List.getD_eq_getElem?_getD, List.getElem?_eq_getElem hi]; rfl
    have hx := hL _ (List.getElem_mem hi)
    rw [← hr] at hx
    have ht := L_tmv hx
    simp only [impl_Strip_covered.l0]
    rw [if_pos (by omega), if_pos h0, if_pos (by omega), L_timeOf hx]
    simp only [Option.bind_some]
    rw [L_w (x := s + tmv (rd L i)) (by omega), L_thirdsIn (by omega) (by omega)]
    simp only [Option.bind_some]
    rw [if_pos (by omega), L_w (x := i + 1) (by omega), ih k _ _ (i + 1) (by omega) (by omega) (by omega) (by omega) (by simp; omega) (by omega),
      List.drop_eq_getElem_cons hi, show (i + 1).toNat = i.toNat + 1 by omega, ← hr]
    simp [D_coverFrom]

theorem L_covered {a b c : Int} (ha : -128 ≤ a ∧ a ≤ 127) (hb : -128 ≤ b ∧ b ≤ 127) (hc : -128 ≤ c ∧ c ≤ 127) (h : D_strip a b c) {k : Nat} (hk : 61 ≤ k) :
    spec_l05Covered.f k a b c = some (D_coverFrom (D_lights a b c) 0) ∧ impl_Strip_covered.f k a b c = some (D_coverFrom (D_lights a b c) 0) := by
  have hl := L_lightsLen h
  have hr := L_lightsRange h
  constructor
  · unfold spec_l05Covered.f
    rw [L_specLights h (by omega)]
    simp only [Option.bind_some]
    rw [L_specCover (D_lights a b c).length hl (D_lights a b c).length k _ 0 0 rfl (fun j _ h => hr _ (List.getElem_mem h)) (by omega) (by omega) (by omega) (by omega) (by omega)]
    simp
  · unfold impl_Strip_covered.f
    rw [L_implLights h (by omega)]
    simp only [Option.bind_some]
    rw [L_implCover (D_lights a b c) hr hl (D_lights a b c).length k [] 0 0 (by omega) (by omega) (by omega) (by omega) (by simp) (by omega)]
    simp


theorem L_areThirds (a : Int) : impl_areThirds.f a = some (decide (0 ≤ a ∧ a ≤ 36)) := by
  unfold impl_areThirds.f; rw [L_within]; rfl

theorem L_implStrip {a b c : Int} (ha : -128 ≤ a ∧ a ≤ 127) (hb : -128 ≤ b ∧ b ≤ 127) (hc : -128 ≤ c ∧ c ≤ 127) : impl_ValidStrip.f a b c = some (decide (D_strip a b c)) := by
  unfold impl_ValidStrip.f impl_Strip_light.f
  rw [L_w (x := a) (by omega), L_w (x := b) (by omega), L_w (x := c) (by omega)]
  simp only [L_areThirds, L_within, Option.bind_some, decide_eq_true_eq]
  unfold D_strip
  by_cases h1 : 0 ≤ a ∧ a ≤ 36
  · by_cases h2 : 1 ≤ b ∧ b ≤ 9
    · by_cases h3 : 1 ≤ c ∧ c ≤ 20
      · have := L_stripb h2 h3
        rw [if_pos h1, if_pos h2, if_pos h3, L_w (x := c - 1) (by omega), L_w (x := b * (c - 1)) (by omega), L_w (x := a + b * (c - 1)) (by omega)]
        exact L_sd (by omega)
      · rw [if_pos h1, if_pos h2, if_neg h3]; exact L_sf (by omega)
    · rw [if_pos h1, if_neg h2]; exact L_sf (by omega)
  · rw [if_neg h1]; exact L_sf (by omega)

theorem L_markI (n : Nat) (hn : n ≤ 140737488351232) (d : Nat) : ∀ (k : Nat) (l : List Int) (v i : Int), l.length = n → 0 ≤ i → i + d = n → d < k → 0 ≤ v → v ≤ 281474976702464 + i →
    ∃ l', laws_markInt64S.l0 k l v i = some (v + d, l') ∧ l'.length = n ∧ (∀ j : Int, 0 ≤ j → j < i → rd l' j = rd l j) ∧ (∀ j : Int, i ≤ j → j < n → rd l' j = v + (j - i)) := by
  induction d with
  | zero =>
    intro k l v i hl h0 hd hk hv hv2
    obtain ⟨k, rfl⟩ : ∃ m, k = m + 1 := ⟨k - 1, by omega⟩
    refine ⟨l, ?_, hl, fun _ _ _ => rfl, fun j h1 h2 => by omega⟩
    simp only [laws_markInt64S.l0]; rw [if_neg (by omega)]; simp
  | succ d ih =>
    intro k l v i hl h0 hd hk hv hv2
    obtain ⟨k, rfl⟩ : ∃ m, k = m + 1 := ⟨k - 1, by omega⟩
    obtain ⟨l', e, hl', h1, h2⟩ := ih k (l.set i.toNat v) (v + 1) (i + 1) (by simpa using hl) (by omega) (by omega) (by omega) (by omega) (by omega)
    refine ⟨l', ?_, hl', fun j hj hj2 => ?_, fun j hj hj2 => ?_⟩
    · simp only [laws_markInt64S.l0]; rw [if_pos (by omega), if_pos h0, L_w (x := v + 1) (by omega), L_w (x := i + 1) (by omega), e]
      congr 2; omega
    · rw [h1 j hj (by omega)]
      unfold rd
      rw [List.getD_eq_getElem?_getD, List.getD_eq_getElem?_getD, List.getElem?_set_ne (by omega)]
    · by_cases e2 : j = i
      · subst e2
        rw [h1 j (by omega) (by omega)]
        unfold rd
        rw [List.getD_eq_getElem?_getD, List.getElem?_set_self (by omega)]
        simp
      · rw [h2 j (by omega) hj2]; omega

theorem L_heldI (n : Nat) (hn : n ≤ 140737488351232) (l : List Int) (hl : l.length = n) (d : Nat) : ∀ (k : Nat) (v i : Int), 0 ≤ i → i + d = n → d < k → 0 ≤ v → v ≤ 281474976702464 + i → (∀ j : Int, i ≤ j → j < n → rd l j = v + (j - i)) →
    laws_heldInt64S.l0 k l v i = some (v + d) := by
  induction d with
  | zero =>
    intro k v i h0 hd hk hv hv2 h
    obtain ⟨k, rfl⟩ : ∃ m, k = m + 1 := ⟨k - 1, by omega⟩
    simp only [laws_heldInt64S.l0]; rw [if_neg (by omega)]; simp
  | succ d ih =>
    intro k v i h0 hd hk hv hv2 h
    obtain ⟨k, rfl⟩ : ∃ m, k = m + 1 := ⟨k - 1, by omega⟩
    have h1 := h i (by omega) (by omega)
    simp only [laws_heldInt64S.l0]; rw [if_pos (by omega), if_pos h0, if_pos (by omega), L_w (x := v + 1) (by omega), L_w (x := i + 1) (by omega),
      ih k (v + 1) (i + 1) (by omega) (by omega) (by omega) (by omega) (by omega) (fun j hj hj2 => by rw [h j (by omega) hj2]; omega)]
    congr 1; omega

theorem L_markHeld (l : List Int) (hn : l.length ≤ 140737488351232) : ∃ l', (∀ k, l.length < k → laws_markInt64S.f k l 1 = some (1 + (l.length : Int), l')) ∧ (∀ k, l.length < k → laws_heldInt64S.f k l' 1 = some (1 + (l.length : Int))) := by
  obtain ⟨l', e, hl', _, h2⟩ := L_markI l.length hn l.length (l.length + 1) l 1 0 rfl (by omega) (by omega) (by omega) (by omega) (by omega)
  refine ⟨l', fun k hk => ?_, fun k hk => ?_⟩
  · obtain ⟨l2, e2, hl2, _, h3⟩ := L_markI l.length hn l.length k l 1 0 rfl (by omega) (by omega) hk (by omega) (by omega)
    unfold laws_markInt64S.f
    rw [e2]
    have : l2 = l' := by
      apply List.ext_getElem (by omega)
      intro j hj hj'
      have a := h3 j (by omega) (by omega)
      have b := h2 j (by omega) (by omega)
      unfold rd at a b
      rw [List.getD_eq_getElem?_getD] at a b
      simp only [Int.toNat_natCast] at a b
      rw [List.getElem?_eq_getElem hj] at a
      rw [List.getElem?_eq_getElem hj'] at b
      simp at a b
      omega
    rw [this]
  · unfold laws_heldInt64S.f
    exact L_heldI l.length hn l' hl' l.length k 1 0 (by omega) (by omega) hk (by omega) (by omega) h2

theorem L_eqI (a : List Int) (hn : a.length ≤ 140737488351232) (d : Nat) : ∀ (k : Nat) (i : Int), 0 ≤ i → i + d = a.length → d < k → laws_eqInt64S.l0 k a a i = some true := by
  induction d with
  | zero =>
    intro k i h0 hd hk
    obtain ⟨k, rfl⟩ : ∃ m, k = m + 1 := ⟨k - 1, by omega⟩
    simp only [laws_eqInt64S.l0]; rw [if_neg (by omega)]
  | succ d ih =>
    intro k i h0 hd hk
    obtain ⟨k, rfl⟩ : ∃ m, k = m + 1 := ⟨k - 1, by omega⟩
    simp only [laws_eqInt64S.l0]; rw [if_pos (by omega), if_pos h0, L_w (x := i + 1) (by omega)]
    simp only [if_true]
    rw [if_pos (by omega)]
    exact ih k (i + 1) (by omega) (by omega) (by omega)

theorem L_eqInt64S (a : List Int) (hn : a.length ≤ 140737488351232) {k : Nat} (hk : a.length < k) : laws_eqInt64S.f k a a = some true := by
  unfold laws_eqInt64S.f; rw [if_pos rfl]; exact L_eqI a hn a.length k 0 (by omega) (by omega) hk

theorem FnExactCoveredLights : ∀ (a0_0 : Int) (a0_1 : Int) (a0_2 : Int), -128 ≤ a0_0 → a0_0 ≤ 127 → -128 ≤ a0_1 → a0_1 ≤ 127 → -128 ≤ a0_2 → a0_2 ≤ 127 → ∃ k, laws_FnExactCoveredLights.f k a0_0 a0_1 a0_2 = some true := by
  intro a b c ha ha' hb hb' hc hc'
  obtain ⟨R, m, hl, e1, e2⟩ : ∃ (R : List Int) (m : Int), R.length ≤ 20 ∧ (∀ k, 61 ≤ k → spec_CoveredLights.f k a b c = some (R, m)) ∧ (∀ k, 61 ≤ k → impl_CoveredLights.f k a b c = some (R, m)) := by
    by_cases h : D_strip a b c
    · refine ⟨D_coverFrom (D_lights a b c) 0, 0, by rw [L_coverLen]; exact L_lightsLen h, fun k hk => ?_, fun k hk => ?_⟩
      · unfold spec_CoveredLights.f
        rw [L_strip ⟨ha, ha'⟩ ⟨hb, hb'⟩ ⟨hc, hc'⟩, (L_covered ⟨ha, ha'⟩ ⟨hb, hb'⟩ ⟨hc, hc'⟩ h hk).1]
        simp [h]
      · unfold impl_CoveredLights.f
        rw [L_implStrip ⟨ha, ha'⟩ ⟨hb, hb'⟩ ⟨hc, hc'⟩, (L_covered ⟨ha, ha'⟩ ⟨hb, hb'⟩ ⟨hc, hc'⟩ h hk).2]
        simp [h]
    · refine ⟨[], 1, by simp, fun k hk => ?_, fun k hk => ?_⟩
      · unfold spec_CoveredLights.f
        rw [L_strip ⟨ha, ha'⟩ ⟨hb, hb'⟩ ⟨hc, hc'⟩]
        simp [h]
      · unfold impl_CoveredLights.f
        rw [L_implStrip ⟨ha, ha'⟩ ⟨hb, hb'⟩ ⟨hc, hc'⟩]
        simp [h]
  obtain ⟨l', h1, h2⟩ := L_markHeld R (by omega)
  refine ⟨70, ?_⟩
  unfold laws_FnExactCoveredLights.f laws_toStrip.f
  simp only [Option.bind_some]
  rw [e1 _ (by omega), e2 _ (by omega)]
  simp only [Option.bind_some]
  rw [L_eqInt64S R (by omega) (by omega)]
  simp only [Option.bind_some, if_true]
  simp only [laws_FnExactCoveredLights.j0, laws_toStrip.f, Option.bind_some, bne_self_eq_false, Bool.false_eq_true, if_false]
  rw [h1 _ (by omega)]
  simp only [Option.bind_some]
  rw [h2 _ (by omega)]
  simp only [Option.bind_some]
  rw [if_neg (by omega)]
  simp only [if_true]
  rw [e2 _ (by omega)]
  simp only [Option.bind_some]
  rw [L_eqInt64S R (by omega) (by omega)]
  simp only [Option.bind_some, if_true, laws_FnExactCoveredLights.j1, bne_self_eq_false, Bool.false_eq_true, if_false]
  rw [h2 _ (by omega)]
  simp only [Option.bind_some]
  rw [if_neg (by omega)]
  simp only [if_true]

end Go.Proofs.Ytcplikffpmihpaa.Pure
