/- The plain law of FnExactLightsOf: the printed function of the law answers true for all arguments within their kinds' bounds. No condition besides. -/
import Derived.Test.YtklcpnhjihmjfaaQx26
namespace Go.Proofs.Ytklcpnhjihmjfaa.Pure
open Go.RowKit Go.Proofs.Ytklcpnhjihmjfaa.Q Go.Proofs.YtklcpnhjihmjfaaW.PrintWords Go.Proofs.YtklcpnhjihmjfaaW.PrintLast Go.Proofs.YtklcpnhjihmjfaaW.PrintMore
set_option linter.unusedVariables false
set_option linter.unusedSimpArgs false
def D_strip (a b c : Int) : Prop := 0 ≤ a ∧ a ≤ 36 ∧ 1 ≤ b ∧ b ≤ 9 ∧ 1 ≤ c ∧ c ≤ 20 ∧ a + b * (c - 1) ≤ 36
instance (a b c : Int) : Decidable (D_strip a b c) := by unfold D_strip; infer_instance

def D_lightsFrom (a b : Int) : Nat → Int → List Int
  | 0, _ => []
  | d + 1, i => (a + i * b) :: D_lightsFrom a b d (i + 1)

def D_lights (a b c : Int) : List Int := D_lightsFrom a b c.toNat 0

theorem L_lightsFromLen (a b : Int) (d : Nat) : ∀ i, (D_lightsFrom a b d i).length = d := by
  induction d with
  | zero => intro i; rfl
  | succ d ih => intro i; simp [D_lightsFrom, ih]

theorem L_lightsLen {a b c : Int} (h : D_strip a b c) : (D_lights a b c).length ≤ 20 := by
  unfold D_lights; rw [L_lightsFromLen]; unfold D_strip at h; omega

theorem L_w {x : Int} (h : -9223372036854775808 ≤ x ∧ x ≤ 9223372036854775807) : wrap64 x = x := by unfold wrap64; omega

theorem L_sd {p q : Prop} [Decidable p] [Decidable q] (h : p ↔ q) : some (decide p) = some (decide q) := by rw [decide_eq_decide.mpr h]

theorem L_sf {q : Prop} [Decidable q] (h : ¬ q) : some false = some (decide q) := by rw [decide_eq_false h]

theorem L_in (a b c : Int) : spec_l00In.f a b c = some (decide (b ≤ a ∧ a ≤ c)) := by
  unfold spec_l00In.f
  split
  · exact L_sd (by omega)
  · exact L_sf (by omega)

theorem L_specThirds (a : Int) : spec_l03Thirds.f a = some (decide (0 ≤ a ∧ a ≤ 36)) := by
  unfold spec_l03Thirds.f; rw [L_in]; rfl

theorem L_mulb {x y X Y : Int} (h : 0 ≤ x) (hx : x ≤ X) (k : 0 ≤ y) (ky : y ≤ Y) : 0 ≤ x * y ∧ x * y ≤ X * Y :=
  ⟨Int.mul_nonneg h k, Int.mul_le_mul hx ky k (Int.le_trans h hx)⟩

theorem L_stripb {b c : Int} (hb : 1 ≤ b ∧ b ≤ 9) (hc : 1 ≤ c ∧ c ≤ 20) : 0 ≤ b * (c - 1) ∧ b * (c - 1) ≤ 171 := by
  have := L_mulb (x := b) (y := c - 1) (X := 9) (Y := 19) (by omega) (by omega) (by omega) (by omega)
  omega

theorem L_strip {a b c : Int} (ha : -128 ≤ a ∧ a ≤ 127) (hb : -128 ≤ b ∧ b ≤ 127) (hc : -128 ≤ c ∧ c ≤ 127) : spec_l05Ok.f a b c = some (decide (D_strip a b c)) := by
  unfold spec_l05Ok.f
  rw [L_w (x := a) (by omega), L_w (x := b) (by omega), L_w (x := c) (by omega)]
  simp only [L_specThirds, L_in, Option.bind_some, decide_eq_true_eq]
  unfold D_strip
  by_cases h1 : 0 ≤ a ∧ a ≤ 36
  · by_cases h2 : 1 ≤ b ∧ b ≤ 9
    · by_cases h3 : 1 ≤ c ∧ c ≤ 20
      · have := L_stripb h2 h3
        rw [if_pos h1, if_pos h2, if_pos h3, L_w (x := c - 1) (by omega), L_w (x := b * (c - 1)) (by omega), L_w (x := a + b * (c - 1)) (by omega)]
        exact L_sd (by omega)
      · rw [if_pos h1, if_pos h2, if_neg h3]; exact L_sf (by omega)
    · rw [if_pos h1, if_neg h2]; exact L_sf (by omega)
  · rw [if_neg h1]; exact L_sf (by omega)

theorem L_specLightsFrom {a b c : Int} (h : D_strip a b c) (d : Nat) : ∀ (k : Nat) (l : List Int) (i : Int), 0 ≤ i → i + d = c → l.length ≤ 100 - d → d < k → spec_l05Lights.l0 k l i a b c = some (l ++ D_lightsFrom a b d i) := by
  have hh := h
  unfold D_strip at hh
  induction d with
  | zero =>
    intro k l i h0 hd hl hk
    obtain ⟨k, rfl⟩ : ∃ m, k = m + 1 := ⟨k - 1, by omega⟩
    simp only [spec_l05Lights.l0, D_lightsFrom]
    rw [L_w (x := c) (by omega), if_neg (by omega)]; simp
  | succ d ih =>
    intro k l i h0 hd hl hk
    obtain ⟨k, rfl⟩ : ∃ m, k = m + 1 := ⟨k - 1, by omega⟩
    have hm := L_mulb (x := i) (y := b) (X := 20) (Y := 9) (by omega) (by omega) (by omega) (by omega)
    simp only [spec_l05Lights.l0, D_lightsFrom]
    rw [L_w (x := c) (by omega), if_pos (by omega), if_pos (by omega), L_w (x := a) (by omega), L_w (x := b) (by omega), L_w (x := i * b) (by omega), L_w (x := a + i * b) (by omega), L_w (x := i + 1) (by omega),
      ih k _ (i + 1) (by omega) (by omega) (by simp; omega) (by omega)]
    simp

theorem L_specLights {a b c : Int} (h : D_strip a b c) {k : Nat} (hk : 21 ≤ k) : spec_l05Lights.f k a b c = some (D_lights a b c) := by
  have hh := h
  unfold D_strip at hh
  unfold spec_l05Lights.f
  rw [L_specLightsFrom h c.toNat k [] 0 (by omega) (by omega) (Nat.zero_le _) (by omega)]; rfl

theorem L_specLightsOf {a b c : Int} (ha : -128 ≤ a ∧ a ≤ 127) (hb : -128 ≤ b ∧ b ≤ 127) (hc : -128 ≤ c ∧ c ≤ 127) {k : Nat} (hk : 21 ≤ k) :
    spec_LightsOf.f k a b c = some (if D_strip a b c then (D_lights a b c, 0) else ([], 1)) := by
  unfold spec_LightsOf.f
  rw [L_strip ha hb hc]
  simp only [Option.bind_some, decide_eq_true_eq]
  split
  · rename_i h; rw [L_specLights h hk]; rfl
  · rfl

theorem L_within (a b c : Int) : impl_within.f a b c = some (decide (b ≤ a ∧ a ≤ c)) := by
  unfold impl_within.f
  split
  · exact L_sd (by omega)
  · exact L_sf (by omega)

theorem L_areThirds (a : Int) : impl_areThirds.f a = some (decide (0 ≤ a ∧ a ≤ 36)) := by
  unfold impl_areThirds.f; rw [L_within]; rfl

theorem L_implStrip {a b c : Int} (ha : -128 ≤ a ∧ a ≤ 127) (hb : -128 ≤ b ∧ b ≤ 127) (hc : -128 ≤ c ∧ c ≤ 127) : impl_ValidStrip.f a b c = some (decide (D_strip a b c)) := by
  unfold impl_ValidStrip.f impl_Strip_light.f
  rw [L_w (x := a) (by omega), L_w (x := b) (by omega), L_w (x := c) (by omega)]
  simp only [L_areThirds, L_within, Option.bind_some, decide_eq_true_eq]
  unfold D_strip
  by_cases h1 : 0 ≤ a ∧ a ≤ 36
  · by_cases h2 : 1 ≤ b ∧ b ≤ 9
    · by_cases h3 : 1 ≤ c ∧ c ≤ 20
      · have := L_stripb h2 h3
        rw [if_pos h1, if_pos h2, if_pos h3, L_w (x := c - 1) (by omega), L_w (x := b * (c - 1)) (by omega), L_w (x := a + b * (c - 1)) (by omega)]
        exact L_sd (by omega)
      · rw [if_pos h1, if_pos h2, if_neg h3]; exact L_sf (by omega)
    · rw [if_pos h1, if_neg h2]; exact L_sf (by omega)
  · rw [if_neg h1]; exact L_sf (by omega)

theorem L_implLightsFrom {a b c : Int} (h : D_strip a b c) (d : Nat) : ∀ (k : Nat) (l : List Int) (i : Int), 0 ≤ i → i + d = c → l.length ≤ 100 - d → d < k → impl_Strip_lights.l0 k l c i a b c = some (l ++ D_lightsFrom a b d i) := by
  have hh := h
  unfold D_strip at hh
  induction d with
  | zero =>
    intro k l i h0 hd hl hk
    obtain ⟨k, rfl⟩ : ∃ m, k = m + 1 := ⟨k - 1, by omega⟩
    simp only [impl_Strip_lights.l0, D_lightsFrom]
    rw [if_neg (by omega)]; simp
  | succ d ih =>
    intro k l i h0 hd hl hk
    obtain ⟨k, rfl⟩ : ∃ m, k = m + 1 := ⟨k - 1, by omega⟩
    have hm := L_mulb (x := i) (y := b) (X := 20) (Y := 9) (by omega) (by omega) (by omega) (by omega)
    have hc : b * i = i * b := Int.mul_comm _ _
    simp only [impl_Strip_lights.l0, D_lightsFrom, impl_Strip_light.f, Option.bind_some]
    rw [if_pos (by omega), if_pos (by omega), L_w (x := a) (by omega), L_w (x := b) (by omega), hc, L_w (x := i * b) (by omega), L_w (x := a + i * b) (by omega), L_w (x := i + 1) (by omega),
      ih k _ (i + 1) (by omega) (by omega) (by simp; omega) (by omega)]
    simp

theorem L_implLights {a b c : Int} (h : D_strip a b c) {k : Nat} (hk : 21 ≤ k) : impl_Strip_lights.f k a b c = some (D_lights a b c) := by
  have hh := h
  unfold D_strip at hh
  unfold impl_Strip_lights.f
  rw [L_w (x := c) (by omega), L_implLightsFrom h c.toNat k [] 0 (by omega) (by omega) (Nat.zero_le _) (by omega)]; rfl

theorem L_implLightsOf {a b c : Int} (ha : -128 ≤ a ∧ a ≤ 127) (hb : -128 ≤ b ∧ b ≤ 127) (hc : -128 ≤ c ∧ c ≤ 127) {k : Nat} (hk : 21 ≤ k) :
    impl_LightsOf.f k a b c = some (if D_strip a b c then (D_lights a b c, 0) else ([], 1)) := by
  unfold impl_LightsOf.f
  rw [L_implStrip ha hb hc]
  simp only [Option.bind_some, decide_eq_true_eq]
  split
  · rename_i h; rw [L_implLights h hk]; rfl
  · rfl

theorem L_markI (n : Nat) (hn : n ≤ 140737488351232) (d : Nat) : ∀ (k : Nat) (l : List Int) (v i : Int), l.length = n → 0 ≤ i → i + d = n → d < k → 0 ≤ v → v ≤ 281474976702464 + i →
    ∃ l', laws_markInt64S.l0 k l v i = some (v + d, l') ∧ l'.length = n ∧ (∀ j : Int, 0 ≤ j → j < i → rd l' j = rd l j) ∧ (∀ j : Int, i ≤ j → j < n → rd l' j = v + (j - i)) := by
  induction d with
  | zero =>
    intro k l v i hl h0 hd hk hv hv2
    obtain ⟨k, rfl⟩ : ∃ m, k = m + 1 := ⟨k - 1, by omega⟩
    refine ⟨l, ?_, hl, fun _ _ _ => rfl, fun j h1 h2 => by omega⟩
    simp only [laws_markInt64S.l0]; rw [if_neg (by omega)]; simp
  | succ d ih =>
    intro k l v i hl h0 hd hk hv hv2
    obtain ⟨k, rfl⟩ : ∃ m, k = m + 1 := ⟨k - 1, by omega⟩
    obtain ⟨l', e, hl', h1, h2⟩ := ih k (l.set i.toNat v) (v + 1) (i + 1) (by simpa using hl) (by omega) (by omega) (by omega) (by omega) (by omega)
    refine ⟨l', ?_, hl', fun j hj hj2 => ?_, fun j hj hj2 => ?_⟩
    · simp only [laws_markInt64S.l0]; rw [if_pos (by omega), if_pos h0, L_w (x := v + 1) (by omega), L_w (x := i + 1) (by omega), e]
      congr 2; omega
    · rw [h1 j hj (by omega)]
      unfold rd
      rw [List.getD_eq_getElem?_getD, List.getD_eq_getElem?_getD, List.getElem?_set_ne (by omega)]
    · by_cases e2 : j = i
      · subst e2
        rw [h1 j (by omega) (by omega)]
        unfold rd
        rw [List.getD_eq_getElem?_getD, List.getElem?_set_self (by omega)]
        simp
      · rw [h2 j (by omega) hj2]; omega

theorem L_heldI (n : Nat) (hn : n ≤ 140737488351232) (l : List Int) (hl : l.length = n) (d : Nat) : ∀ (k : Nat) (v i : Int), 0 ≤ i → i + d = n → d < k → 0 ≤ v → v ≤ 281474976702464 + i → (∀ j : Int, i ≤ j → j < n → rd l j = v + (j - i)) →
    laws_heldInt64S.l0 k l v i = some (v + d) := by
  induction d with
  | zero =>
    intro k v i h0 hd hk hv hv2 h
    obtain ⟨k, rfl⟩ : ∃ m, k = m + 1 := ⟨k - 1, by omega⟩
    simp only [laws_heldInt64S.l0]; rw [if_neg (by omega)]; simp
  | succ d ih =>
    intro k v i h0 hd hk hv hv2 h
    obtain ⟨k, rfl⟩ : ∃ m, k = m + 1 := ⟨k - 1, by omega⟩
    have h1 := h i (by omega) (by omega)
    simp only [laws_heldInt64S.l0]; rw [if_pos (by omega), if_pos h0, if_pos (by omega), L_w (x := v + 1) (by omega), L_w (x := i + 1) (by omega),
      ih k (v + 1) (i + 1) (by omega) (by omega) (by omega) (by omega) (by omega) (fun j hj hj2 => by rw [h j (by omega) hj2]; omega)]
    congr 1; omega

theorem L_markHeld (l : List Int) (hn : l.length ≤ 140737488351232) : ∃ l', (∀ k, l.length < k → laws_markInt64S.f k l 1 = some (1 + (l.length : Int), l')) ∧ (∀ k, l.length < k → laws_heldInt64S.f k l' 1 = some (1 + (l.length : Int))) := by
  obtain ⟨l', e, hl', _, h2⟩ := L_markI l.length hn l.length (l.length + 1) l 1 0 rfl (by omega) (by omega) (by omega) (by omega) (by omega)
  refine ⟨l', fun k hk => ?_, fun k hk => ?_⟩
  · obtain ⟨l2, e2, hl2, _, h3⟩ := L_markI l.length hn l.length k l 1 0 rfl (by omega) (by omega) hk (by omega) (by omega)
    unfold laws_markInt64S.f
    rw [e2]
    have : l2 = l' := by
      apply List.ext_getElem (by omega)
      intro j hj hj'
      have a := h3 j (by omega) (by omega)
      have b := h2 j (by omega) (by omega)
      unfold rd at a b
      rw [List.getD_eq_getElem?_getD] at a b
      simp only [Int.toNat_natCast] at a b
      rw [List.getElem?_eq_getElem hj] at a
      rw [List.getElem?_eq_getElem hj'] at b
      simp at a b
      omega
    rw [this]
  · unfold laws_heldInt64S.f
    exact L_heldI l.length hn l' hl' l.length k 1 0 (by omega) (by omega) hk (by omega) (by omega) h2

theorem L_eqI (a : List Int) (hn : a.length ≤ 140737488351232) (d : Nat) : ∀ (k : Nat) (i : Int), 0 ≤ i → i + d = a.length → d < k → laws_eqInt64S.l0 k a a i = some true := by
  induction d with
  | zero =>
    intro k i h0 hd hk
    obtain ⟨k, rfl⟩ : ∃ m, k = m + 1 := ⟨k - 1, by omega⟩
    simp only [laws_eqInt64S.l0]; rw [if_neg (by omega)]
  | succ d ih =>
    intro k i h0 hd hk
    obtain ⟨k, rfl⟩ : ∃ m, k = m + 1 := ⟨k - 1, by omega⟩
    simp only [laws_eqInt64S.l0]; rw [if_pos (by omega), if_pos h0, L_w (x := i + 1) (by omega)]
    simp only [if_true]
    rw [if_pos (by omega)]
    exact ih k (i + 1) (by omega) (by omega) (by omega)

theorem L_eqInt64S (a : List Int) (hn : a.length ≤ 140737488351232) {k : Nat} (hk : a.length < k) : laws_eqInt64S.f k a a = some true := by
  unfold laws_eqInt64S.f; rw [if_pos rfl]; exact L_eqI a hn a.length k 0 (by omega) (by omega) hk

theorem FnExactLightsOf : ∀ (a0_0 : Int) (a0_1 : Int) (a0_2 : Int), -128 ≤ a0_0 → a0_0 ≤ 127 → -128 ≤ a0_1 → a0_1 ≤ 127 → -128 ≤ a0_2 → a0_2 ≤ 127 → ∃ k, laws_FnExactLightsOf.f k a0_0 a0_1 a0_2 = some true := by
  intro a b c ha ha' hb hb' hc hc'
  obtain ⟨R, m, hl, e1, e2⟩ : ∃ (R : List Int) (m : Int), R.length ≤ 20 ∧ (∀ k, 21 ≤ k → spec_LightsOf.f k a b c = some (R, m)) ∧ (∀ k, 21 ≤ k → impl_LightsOf.f k a b c = some (R, m)) := by
    by_cases h : D_strip a b c
    · exact ⟨_, _, L_lightsLen h, fun k hk => by rw [L_specLightsOf ⟨ha, ha'⟩ ⟨hb, hb'⟩ ⟨hc, hc'⟩ hk, if_pos h], fun k hk => by rw [L_implLightsOf ⟨ha, ha'⟩ ⟨hb, hb'⟩ ⟨hc, hc'⟩ hk, if_pos h]⟩
    · exact ⟨[], 1, by simp, fun k hk => by rw [L_specLightsOf ⟨ha, ha'⟩ ⟨hb, hb'⟩ ⟨hc, hc'⟩ hk, if_neg h], fun k hk => by rw [L_implLightsOf ⟨ha, ha'⟩ ⟨hb, hb'⟩ ⟨hc, hc'⟩ hk, if_neg h]⟩
  obtain ⟨l', h1, h2⟩ := L_markHeld R (by omega)
  refine ⟨32, ?_⟩
  unfold laws_FnExactLightsOf.f laws_toStrip.f
  simp only [Option.bind_some]
  rw [e1 _ (by omega), e2 _ (by omega)]
  simp only [Option.bind_some]
  rw [L_eqInt64S R (by omega) (by omega)]
  simp only [Option.bind_some, if_true]
  simp only [laws_FnExactLightsOf.j0, laws_toStrip.f, Option.bind_some, bne_self_eq_false, Bool.false_eq_true, if_false]
  rw [h1 _ (by omega)]
  simp only [Option.bind_some]
  rw [h2 _ (by omega)]
  simp only [Option.bind_some]
  rw [if_neg (by omega)]
  simp only [if_true]
  rw [e2 _ (by omega)]
  simp only [Option.bind_some]
  rw [L_eqInt64S R (by omega) (by omega)]
  simp only [Option.bind_some, if_true, laws_FnExactLightsOf.j1, bne_self_eq_false, Bool.false_eq_true, if_false]
  rw [h2 _ (by omega)]
  simp only [Option.bind_some]
  rw [if_neg (by omega)]
  simp only [if_true]

end Go.Proofs.Ytklcpnhjihmjfaa.Pure
