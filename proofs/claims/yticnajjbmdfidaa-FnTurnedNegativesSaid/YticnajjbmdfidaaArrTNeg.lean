-- The law of turned negatives.
import Derived.Test.YticnajjbmdfidaaQx3
import Derived.Test.YticnajjbmdfidaaQx4
import Derived.Test.YticnajjbmdfidaaArrMir
import Derived.Test.YticnajjbmdfidaaArrTurn
import Derived.Test.YticnajjbmdfidaaArrEnl
import Derived.Test.YticnajjbmdfidaaArrGreat
import Derived.Test.YticnajjbmdfidaaArrCopies
import Derived.Test.YticnajjbmdfidaaArrMask
import Derived.Test.YticnajjbmdfidaaArrOpen
namespace Go.Proofs.Yticnajjbmdfidaa.Q
open Go.RowKit Go.Proofs.YticnajjbmdfidaaW.PrintWords Go.Proofs.YticnajjbmdfidaaW.PrintLast Go.Proofs.YticnajjbmdfidaaW.PrintMore
attribute [local go_sem] max2_int min2_int max_two min_two max_three min_three max_four min_four
set_option linter.unusedVariables false
set_option linter.unusedSimpArgs false
theorem TN_dense {xs : List Int} (h : ∀ x ∈ xs, 0 ≤ x ∧ x ≤ 400) : D_dense xs := h
theorem TN_16 {xs : List Int} (h : ∀ x ∈ xs, 0 ≤ x ∧ x ≤ 400) : ∀ x ∈ xs, -32768 ≤ x ∧ x ≤ 32767 := fun x hx => by have := h x hx; omega
theorem TN_perm {xs : List Int} (hl : xs.length = 64) (h : ∀ x ∈ xs, 0 ≤ x ∧ x ≤ 400) (p : Int → Int) (hp : ∀ k : Int, 0 ≤ k → k < 64 → 0 ≤ p k ∧ p k < 64) : ∀ x ∈ perm 64 p xs, 0 ≤ x ∧ x ≤ 400 := by
  intro x hx
  obtain ⟨k, hk, rfl⟩ := List.mem_map.1 hx
  have hk2 := List.mem_range.1 hk
  have := hp k (by omega) (by omega)
  exact arr_rd (P := fun x => 0 ≤ x ∧ x ≤ 400) h this.1 (by rw [hl]; omega)
theorem TN_perm2 {xs : List Int} (hl : xs.length = 64) (p q : Int → Int) (hq : ∀ k : Int, 0 ≤ k → k < 64 → 0 ≤ q k ∧ q k < 64) : perm 64 q (perm 64 p xs) = perm 64 (fun k => p (q k)) xs := by
  refine arr_ext (by rw [perm_len, perm_len]) (fun j h0 h1 => ?_)
  rw [perm_len] at h1
  have := hq j h0 h1
  rw [rd_perm h0 h1, rd_perm h0 h1, rd_perm this.1 this.2]
theorem TN_id {xs : List Int} (hl : xs.length = 64) (p : Int → Int) (hp : ∀ k : Int, 0 ≤ k → k < 64 → p k = k) : perm 64 p xs = xs := by
  refine arr_ext (by rw [perm_len, hl]) (fun j h0 h1 => ?_)
  rw [perm_len] at h1
  rw [rd_perm h0 h1, hp j h0 h1]
theorem TN_mirR (k : Int) (h0 : 0 ≤ k) (h1 : k < 64) : 0 ≤ p_mir k ∧ p_mir k < 64 := by unfold p_mir; omega
theorem TN_turnR (k : Int) (h0 : 0 ≤ k) (h1 : k < 64) : 0 ≤ p_turn k ∧ p_turn k < 64 := by unfold p_turn; omega
theorem TN_mir2 {xs : List Int} (hl : xs.length = 64) : perm 64 p_mir (perm 64 p_mir xs) = xs := by
  rw [TN_perm2 hl p_mir p_mir TN_mirR]
  exact TN_id hl _ (fun k h0 h1 => by unfold p_mir; omega)
def D_turnN : Nat → List Int → List Int
  | 0, x => x
  | k + 1, x => D_turnN k (perm 64 p_turn x)
theorem TN_turn4 {xs : List Int} (hl : xs.length = 64) : D_turnN 4 xs = xs := by
  have a1 : ∀ k : Int, 0 ≤ k → k < 64 → 0 ≤ p_turn (p_turn k) ∧ p_turn (p_turn k) < 64 := fun k h0 h1 => TN_turnR _ (TN_turnR k h0 h1).1 (TN_turnR k h0 h1).2
  show perm 64 p_turn (perm 64 p_turn (perm 64 p_turn (perm 64 p_turn xs))) = xs
  rw [TN_perm2 (perm_len 64 p_turn _) p_turn p_turn TN_turnR, TN_perm2 hl p_turn p_turn TN_turnR, TN_perm2 hl _ _ a1]
  refine TN_id hl _ (fun k h0 h1 => ?_)
  have e : ∀ k : Int, 0 ≤ k → k < 64 → p_turn (p_turn k) = 63 - k := fun k h0 h1 => by unfold p_turn; omega
  rw [e k h0 h1, e _ (by omega) (by omega)]
  omega
theorem TN_pick {l : List Int} (hl : ∀ x ∈ l, 0 ≤ x ∧ x ≤ 255) (n : Int) (hn : 1 < n) : ∃ r, spec_P6Pick.f l n = some r ∧ 0 ≤ r ∧ r < n := by
  obtain ⟨x, b, y, e, h0, h1, _, _⟩ := DC.pick hl (a := 0) (by omega) 0 n
  refine ⟨x, ?_, h0, by omega⟩
  unfold spec_P6Pick.f spec_l00From.f
  simp only [Option.bind_some]
  rw [e]
  rfl
def RngAt (W : World) (g : Nat) (xs : List Int) : Prop := g < W.heap.size ∧ W.rangeAt g 0 (nums .i16 xs)
theorem RngAt.below {W W1 : World} {g : Nat} {xs : List Int} (h : RngAt W g xs) (hb : Below W.heap.size W W1) : RngAt W1 g xs := ⟨Nat.lt_of_lt_of_le h.1 hb.size, range_below hb h.2 h.1⟩
theorem RngAt.cell {W : World} {g : Nat} {xs : List Int} (h : RngAt W g xs) {i : Int} (h0 : 0 ≤ i) (h1 : i < xs.length) : W.cell? ⟨g, i.toNat, none⟩ = some (.int .i16 (rd xs i)) := by
  have := h.2 i.toNat (.int .i16 (rd xs i)) (by simp [nums, rd, List.getElem?_eq_getElem (show i.toNat < xs.length by omega), List.getD_eq_getElem?_getD])
  rwa [Nat.zero_add] at this
theorem TN_copy {W : World} {base : Nat} {ok : Nat → Prop} {v : Value} {xss : List (List Int)} {T : Nat} (ho : Kd.R kArr T W base ok v xss) (hn : 1 ≤ xss.length) (hc : ∀ xs ∈ xss, Cells64 xs) : ∃ g cap xs, v = .slice (some ⟨g, 0, none⟩) xss.length cap ∧ RngAt W g xs ∧ Cells64 xs := by
  obtain ⟨g, cap, rfl, _, hl, _⟩ := Kd.R_form ho (by omega)
  obtain ⟨ad, c, e, _, hK, hcell⟩ := Kd.C_get (Kd.R_reads' ho).2.2 [] 0 (by omega) (by omega)
  cases e
  refine ⟨g, cap, _, rfl, ⟨hl, fun j u hu => ?_⟩, hc (xss.getD 0 []) (by
    have h0 : 0 < xss.length := by omega
    rw [show xss.getD 0 [] = xss[0] by simp [List.getD, List.getElem?_eq_getElem h0]]
    exact List.getElem_mem h0)⟩
  have h2 := hcell j u (by rw [hK.1]; exact hu)
  have e2 : (⟨g, 0, none⟩ : Addr).add ((0 : Int).toNat * kArr.sz + j) = ⟨g, 0 + j, none⟩ := by
    rw [show ((0 : Int).toNat * kArr.sz + j) = j by simp]
    exact Addr.add_mid g 0 j
  rw [e2] at h2
  exact h2
theorem TN_greatFrom (xs ys : List Int) : ∀ (k : Nat) (b i : Int), D_off (rd xs b) (rd ys b) ≤ D_off (rd xs (D_greatFrom xs ys k b i)) (rd ys (D_greatFrom xs ys k b i)) ∧ (∀ j : Int, i ≤ j → j < i + k → D_off (rd xs j) (rd ys j) ≤ D_off (rd xs (D_greatFrom xs ys k b i)) (rd ys (D_greatFrom xs ys k b i))) ∧ (D_greatFrom xs ys k b i = b ∨ i ≤ D_greatFrom xs ys k b i ∧ D_greatFrom xs ys k b i < i + k)
  | 0, b, i => ⟨Int.le_refl _, fun j h1 h2 => by omega, .inl rfl⟩
  | k + 1, b, i => by
    simp only [D_greatFrom]
    obtain ⟨h1, h2, h3⟩ := TN_greatFrom xs ys k (if D_off (rd xs i) (rd ys i) > D_off (rd xs b) (rd ys b) then i else b) (i + 1)
    generalize D_greatFrom xs ys k (if D_off (rd xs i) (rd ys i) > D_off (rd xs b) (rd ys b) then i else b) (i + 1) = r at h1 h2 h3
    by_cases h : D_off (rd xs i) (rd ys i) > D_off (rd xs b) (rd ys b)
    · rw [if_pos h] at h1 h3
      refine ⟨by omega, fun j hj hj2 => ?_, by omega⟩
      by_cases e : j = i
      · rw [e]; exact h1
      · exact h2 j (by omega) (by omega)
    · rw [if_neg h] at h1 h3
      refine ⟨h1, fun j hj hj2 => ?_, by omega⟩
      by_cases e : j = i
      · rw [e]; omega
      · exact h2 j (by omega) (by omega)
theorem TN_great (xs ys : List Int) : (0 ≤ D_great xs ys ∧ D_great xs ys < 64) ∧ ∀ j : Int, 0 ≤ j → j < 64 → D_off (rd xs j) (rd ys j) ≤ D_off (rd xs (D_great xs ys)) (rd ys (D_great xs ys)) := by
  obtain ⟨h1, h2, h3⟩ := TN_greatFrom xs ys 63 0 1
  unfold D_great
  refine ⟨by omega, fun j h h' => ?_⟩
  by_cases e : j = 0
  · rw [e]; exact h1
  · exact h2 j (by omega) (by omega)
theorem TN_diff (xs ys : List Int) (t : Int) : ∀ (k : Nat) (a i : Int), 0 ≤ i → i + k ≤ 64 → U64 a → U64 (D_diffFrom xs ys t k a i) ∧ ∀ j : Int, 0 ≤ j → j < 64 → tb (D_diffFrom xs ys t k a i) j = (tb a j || decide (i ≤ j ∧ j < i + k ∧ t < D_off (rd xs j) (rd ys j)))
  | 0, a, i, _, _, ha => ⟨ha, fun j _ _ => by simp only [D_diffFrom]; rw [decide_eq_false (by omega)]; simp⟩
  | k + 1, a, i, h0, h1, ha => by
    simp only [D_diffFrom]
    obtain ⟨e1, e2⟩ := u64_pow h0 (by omega : i < 64)
    by_cases h : D_off (rd xs i) (rd ys i) > t
    · rw [if_pos h, e1]
      obtain ⟨q1, q2⟩ := TN_diff xs ys t k (Go.bits .or .u64 a (2 ^ i.toNat)) (i + 1) (by omega) (by omega) (u64_or ha e2)
      refine ⟨q1, fun j hj hj2 => ?_⟩
      rw [q2 j hj hj2, tb_or ha e2, tb_pow h0 (by omega) hj]
      by_cases e : j = i
      · subst e
        rw [decide_eq_true (show j ≤ j ∧ j < j + ((k + 1 : Nat) : Int) ∧ t < D_off (rd xs j) (rd ys j) from ⟨Int.le_refl _, by omega, h⟩)]
        simp
      · rw [decide_eq_false e, Bool.or_false]
        congr 1
        exact decide_eq_decide.mpr ⟨fun h => ⟨by omega, by omega, h.2.2⟩, fun h => ⟨by omega, by omega, h.2.2⟩⟩
    · rw [if_neg h]
      obtain ⟨q1, q2⟩ := TN_diff xs ys t k a (i + 1) (by omega) (by omega) ha
      refine ⟨q1, fun j hj hj2 => ?_⟩
      rw [q2 j hj hj2]
      congr 1
      refine decide_eq_decide.mpr ⟨fun h => ⟨by omega, by omega, h.2.2⟩, fun h2 => ⟨?_, by omega, h2.2.2⟩⟩
      have : j ≠ i := fun e => by rw [e] at h2; exact h h2.2.2
      omega
theorem TN_bit (xs ys : List Int) (t i : Int) (h0 : 0 ≤ i) (h1 : i < 64) : (Go.bits .and .u64 (D_diffFrom xs ys t 64 0 0 / 2 ^ i.toNat) 1 == 1) = decide (t < D_off (rd xs i) (rd ys i)) := by
  obtain ⟨q1, q2⟩ := TN_diff xs ys t 64 0 0 (by omega) (by omega) u64_zero
  have e := D_bit_tb q1 h0 (m := D_diffFrom xs ys t 64 0 0) (k := i)
  rw [q2 i h0 h1, tb_zero] at e
  unfold D_bit at e
  by_cases h : t < D_off (rd xs i) (rd ys i)
  · rw [decide_eq_true h]
    exact beq_iff_eq.mpr (e.mpr (by simp; omega))
  · rw [decide_eq_false h]
    refine beq_eq_false_iff_ne.mpr (fun hh => ?_)
    have := e.mp hh
    simp at this
    omega
theorem TN_mask : ∀ a b : Fin 8, ((impl_MaskOf.f 200 (a.val : Int) (b.val : Int) 7 7).bind fun p => if p.2 = 0 then (spec_CellsIn.f 200 p.1).bind fun c => some (decide (c = (8 - (a.val : Int)) * (8 - (b.val : Int)))) else none) = some true := by decide +kernel
theorem TN_maskOf {a b : Int} (ha : 0 ≤ a ∧ a < 8) (hb : 0 ≤ b ∧ b < 8) : ∃ m, impl_MaskOf.f 200 a b 7 7 = some (m, 0) ∧ spec_CellsIn.f 200 m = some ((8 - a) * (8 - b)) := by
  obtain ⟨p, rfl⟩ : ∃ p : Nat, a = p := ⟨a.toNat, by omega⟩
  obtain ⟨q, rfl⟩ : ∃ q : Nat, b = q := ⟨b.toNat, by omega⟩
  have h := TN_mask ⟨p, by omega⟩ ⟨q, by omega⟩
  dsimp only at h
  obtain ⟨⟨m, c⟩, e, h⟩ := Option.bind_eq_some_iff.mp h
  dsimp only at h
  split at h
  · rename_i hc
    subst hc
    obtain ⟨r, e2, h⟩ := Option.bind_eq_some_iff.mp h
    have hr := of_decide_eq_true (Option.some.inj h)
    exact ⟨m, e, by rw [e2, hr]⟩
  · cases h
theorem TN_prod {a b : Int} (ha : 0 ≤ a ∧ a < 8) (hb : 0 ≤ b ∧ b < 8) : 0 ≤ (8 - a) * (8 - b) ∧ (8 - a) * (8 - b) ≤ 64 := by
  obtain rfl | rfl | rfl | rfl | rfl | rfl | rfl | rfl : a = 0 ∨ a = 1 ∨ a = 2 ∨ a = 3 ∨ a = 4 ∨ a = 5 ∨ a = 6 ∨ a = 7 := by omega
  all_goals omega
set_option maxHeartbeats 8000000 in
set_option maxRecDepth 100000 in
theorem laws_FnTurnedNegatives.walk (A0 : Option Addr) (c0 : Nat) (l0 : List Int) (A1 : Option Addr) (c1 : Nat) (l1 : List Int) (w : World) (hr0 : Kd.C (Kd.int .u8) w A0 l0.length l0) (hc0 : l0.length ≤ c0) (hs0 : ∀ x ∈ l0, 0 ≤ x ∧ x ≤ 255) (hr1 : Kd.C (Kd.int .u8) w A1 l1.length l1) (hc1 : l1.length ≤ c1) (hs1 : ∀ x ∈ l1, 0 ≤ x ∧ x ≤ 255) (hf0 : l0.length ≤ 4096) (hf1 : l1.length ≤ 4096) :
    Calls Try.prog 8 #[.slice A0 l0.length c0, .slice A1 l1.length c1] w fun e w' => e = .returned (.bool true) ∧ Below w.heap.size w w' := by
  have HC0 := Aside0.mk hc0
  have HC1 := Aside0.mk hc1
  have HS0 := Aside0.mk hs0
  have HS1 := Aside0.mk hs1
  have HR0 := Aside0.mk hr0
  have HR1 := Aside0.mk hr1
  have HB := Aside0.mk (Below.refl w.heap.size w)
  have HF0 := Aside0.mk (show laws_f6big.f l0 = some false by unfold laws_f6big.f; rw [decide_eq_false (by omega)])
  have HF1 := Aside0.mk (show laws_f6big.f l1 = some false by unfold laws_f6big.f; rw [decide_eq_false (by omega)])
  clear hr0 hc0 hs0 hr1 hc1 hs1 hf0 hf1
  go_enter Try.func8, Try.ntmps8
  go_wp2_with fail
  refine (laws_f6big.calls _ _ l0 false _ (Kd.C_below HR0.out HB.out) HC0.out HF0.out).mono ?_
  rintro e w1 ⟨rfl, hb⟩
  have HB_1 := Aside0.mk (below_step HB.out hb.below)
  clear hb HB
  go_wp2_with fail
  refine (laws_f6big.calls _ _ l1 false _ (Kd.C_below HR1.out HB_1.out) HC1.out HF1.out).mono ?_
  rintro e w2 ⟨rfl, hb⟩
  have HB_2 := Aside0.mk (below_step HB_1.out hb.below)
  clear hb HB_1
  go_wp2_with fail
  refine (spec_P6Negative.arr _ _ l0 _ (Kd.C_below HR0.out HB_2.out) HC0.out HS0.out).mono ?_
  rintro e w3 ⟨xs, rfl, hxl, hxa, hb⟩
  have HX := Aside0.mk hxl
  have HXA := Aside0.mk hxa
  obtain ⟨M, hM⟩ : ∃ M, M = perm 64 p_mir xs := ⟨_, rfl⟩
  have HML := Aside0.mk (show M.length = 64 by rw [hM, perm_len])
  have HMA := Aside0.mk (show ∀ x ∈ M, 0 ≤ x ∧ x ≤ 400 by rw [hM]; exact TN_perm hxl hxa p_mir TN_mirR)
  have HV1 := Aside0.mk (show D_moved p_mir xs = (M, 0) by rw [hM]; exact if_pos (TN_dense hxa))
  have HV2 := Aside0.mk (show D_moved p_mir M = (xs, 0) by rw [hM]; exact (if_pos (TN_dense (TN_perm hxl hxa p_mir TN_mirR))).trans (by rw [TN_mir2 hxl]))
  clear hxl hxa hM
  have HB_3 := Aside0.mk (below_step HB_2.out hb)
  clear hb HB_2
  have N_n := Aside0.mk (ArrAt.new w3 42 .i16 (zer 64))
  have N_0 := Aside0.mk (N_n.out.row (ys := xs))
  have hba := below_row (below_alloc (Below.refl w3.heap.size w3) (.cells (nums .i16 (zer 64)).toArray 42)) (Nat.le_refl w3.heap.size) (nums .i16 xs).toArray
  have HB_4 := Aside0.mk (below_step HB_3.out hba)
  clear hba HB_3
  go_wp2_with (first | (refine arr_store rfl 42 _ _ rfl w3.heap.size .i16 xs rfl rfl 42 (zer 64) N_n.out 64 (by kernel_rfl) (zer_len 64) HX.out ?_) | (refine arr_load rfl 42 _ rfl w3.heap.size rfl 42 .i16 xs N_0.out _ Try.underlying42 rfl 64 (by kernel_rfl) HX.out ?_))
  refine (impl_MirrorNegative.arr xs HX.out (TN_16 HXA.out) _).mono ?_
  rintro e w5 ⟨rfl, hb⟩
  rw [HV1.out]
  have HB_5 := Aside0.mk (below_step HB_4.out hb)
  have N_5 := Aside0.mk (ArrAt.below N_0.out hb)
  clear hb HB_4 N_0
  have Ma_n := Aside0.mk (ArrAt.new w5 42 .i16 (zer 64))
  have Ma_0 := Aside0.mk (Ma_n.out.row (ys := M))
  have hba := below_row (below_alloc (Below.refl w5.heap.size w5) (.cells (nums .i16 (zer 64)).toArray 42)) (Nat.le_refl w5.heap.size) (nums .i16 M).toArray
  have HB_6 := Aside0.mk (below_step HB_5.out hba)
  have N_6 := Aside0.mk (ArrAt.below N_5.out hba)
  clear hba HB_5 N_5
  go_wp2_with (first | (refine arr_store rfl 42 _ _ rfl w5.heap.size .i16 M rfl rfl 42 (zer 64) Ma_n.out 64 (by kernel_rfl) (zer_len 64) HML.out ?_) | (refine arr_load rfl 42 _ rfl w3.heap.size rfl 42 .i16 xs N_6.out _ Try.underlying42 rfl 64 (by kernel_rfl) HX.out ?_) | (refine arr_load rfl 42 _ rfl w5.heap.size rfl 42 .i16 M Ma_0.out _ Try.underlying42 rfl 64 (by kernel_rfl) HML.out ?_))
  refine (spec_MirrorNegative.arr xs HX.out (TN_16 HXA.out) _).mono ?_
  rintro e w7 ⟨rfl, hb⟩
  rw [HV1.out]
  have HB_7 := Aside0.mk (below_step HB_6.out hb)
  have N_7 := Aside0.mk (ArrAt.below N_6.out hb)
  have Ma_7 := Aside0.mk (ArrAt.below Ma_0.out hb)
  clear hb HB_6 N_6 Ma_0
  have Du_n := Aside0.mk (ArrAt.new w7 42 .i16 (zer 64))
  have Du_0 := Aside0.mk (Du_n.out.row (ys := M))
  have hba := below_row (below_alloc (Below.refl w7.heap.size w7) (.cells (nums .i16 (zer 64)).toArray 42)) (Nat.le_refl w7.heap.size) (nums .i16 M).toArray
  have HB_8 := Aside0.mk (below_step HB_7.out hba)
  have N_8 := Aside0.mk (ArrAt.below N_7.out hba)
  have Ma_8 := Aside0.mk (ArrAt.below Ma_7.out hba)
  clear hba HB_7 N_7 Ma_7
  go_wp2_with (first | (refine arr_store rfl 42 _ _ rfl w7.heap.size .i16 M rfl rfl 42 (zer 64) Du_n.out 64 (by kernel_rfl) (zer_len 64) HML.out ?_) | (refine arr_load rfl 42 _ rfl w3.heap.size rfl 42 .i16 xs N_8.out _ Try.underlying42 rfl 64 (by kernel_rfl) HX.out ?_) | (refine arr_load rfl 42 _ rfl w5.heap.size rfl 42 .i16 M Ma_8.out _ Try.underlying42 rfl 64 (by kernel_rfl) HML.out ?_) | (refine arr_load rfl 42 _ rfl w7.heap.size rfl 42 .i16 M Du_0.out _ Try.underlying42 rfl 64 (by kernel_rfl) HML.out ?_))
  refine (impl_MirrorNegative.arr M HML.out (TN_16 HMA.out) _).mono ?_
  rintro e w9 ⟨rfl, hb⟩
  rw [HV2.out]
  have HB_9 := Aside0.mk (below_step HB_8.out hb)
  have N_9 := Aside0.mk (ArrAt.below N_8.out hb)
  have Ma_9 := Aside0.mk (ArrAt.below Ma_8.out hb)
  have Du_9 := Aside0.mk (ArrAt.below Du_0.out hb)
  clear hb HB_8 N_8 Ma_8 Du_0
  have HS9 := Aside0.mk (show w.heap.size ≤ w9.heap.size from Below.size HB_9.out)
  have HN9 := Aside0.mk (show w3.heap.size < w9.heap.size from ArrAt.lt N_9.out)
  have Ba_n := Aside0.mk (ArrAt.new w9 42 .i16 (zer 64))
  have Ba_0 := Aside0.mk (Ba_n.out.row (ys := xs))
  have hba := below_row (below_alloc (Below.refl w9.heap.size w9) (.cells (nums .i16 (zer 64)).toArray 42)) (Nat.le_refl w9.heap.size) (nums .i16 xs).toArray
  have HB_10 := Aside0.mk (below_step HB_9.out hba)
  have N_10 := Aside0.mk (ArrAt.below N_9.out hba)
  have Ma_10 := Aside0.mk (ArrAt.below Ma_9.out hba)
  have Du_10 := Aside0.mk (ArrAt.below Du_9.out hba)
  clear hba HB_9 N_9 Ma_9 Du_9
  have qM := eq_neg M HML.out
  have qX := eq_neg xs HX.out
  have No_n := Aside0.mk (ArrAt.newAt (W := ((w9.alloc (.cells (nums .i16 (zer 64)).toArray 42)).setRow w9.heap.size (nums .i16 xs).toArray)) (g := (w9.heap.size + 1)) (by simp) 42 .i16 (zer 64))
  have No_0 := Aside0.mk (No_n.out.row (ys := xs))
  have hba := below_row (below_alloc (Below.refl (((w9.alloc (.cells (nums .i16 (zer 64)).toArray 42)).setRow w9.heap.size (nums .i16 xs).toArray)).heap.size (((w9.alloc (.cells (nums .i16 (zer 64)).toArray 42)).setRow w9.heap.size (nums .i16 xs).toArray))) (.cells (nums .i16 (zer 64)).toArray 42)) (g := (w9.heap.size + 1)) (by simp) (nums .i16 xs).toArray
  have HB_11 := Aside0.mk (below_step HB_10.out hba)
  have N_11 := Aside0.mk (ArrAt.below N_10.out hba)
  have Ma_11 := Aside0.mk (ArrAt.below Ma_10.out hba)
  have Du_11 := Aside0.mk (ArrAt.below Du_10.out hba)
  have Ba_11 := Aside0.mk (ArrAt.below Ba_0.out hba)
  go_wp2_with (first | (refine arr_store rfl 42 _ _ rfl w9.heap.size .i16 xs rfl rfl 42 (zer 64) Ba_n.out 64 (by kernel_rfl) (zer_len 64) HX.out ?_) | (refine arr_loadG (by rfl) 42 _ rfl w3.heap.size rfl 42 .i16 xs N_10.out _ Try.underlying42 rfl 64 (by kernel_rfl) HX.out ?_) | (refine arr_loadG (by rfl) 42 _ rfl w5.heap.size rfl 42 .i16 M Ma_10.out _ Try.underlying42 rfl 64 (by kernel_rfl) HML.out ?_) | (refine arr_loadG (by rfl) 42 _ rfl w7.heap.size rfl 42 .i16 M Du_10.out _ Try.underlying42 rfl 64 (by kernel_rfl) HML.out ?_) | (refine arr_loadG (by rfl) 42 _ rfl w9.heap.size rfl 42 .i16 xs Ba_0.out _ Try.underlying42 rfl 64 (by kernel_rfl) HX.out ?_) | (refine arr_load rfl 42 _ rfl w3.heap.size rfl 42 .i16 xs N_10.out _ Try.underlying42 rfl 64 (by kernel_rfl) HX.out ?_) | (refine arr_load rfl 42 _ rfl w5.heap.size rfl 42 .i16 M Ma_10.out _ Try.underlying42 rfl 64 (by kernel_rfl) HML.out ?_) | (refine arr_load rfl 42 _ rfl w7.heap.size rfl 42 .i16 M Du_10.out _ Try.underlying42 rfl 64 (by kernel_rfl) HML.out ?_) | (refine arr_load rfl 42 _ rfl w9.heap.size rfl 42 .i16 xs Ba_0.out _ Try.underlying42 rfl 64 (by kernel_rfl) HX.out ?_) | (refine arr_store rfl 42 _ _ rfl (w9.heap.size + 1) .i16 xs rfl rfl 42 (zer 64) No_n.out 64 (by kernel_rfl) (zer_len 64) HX.out ?_))
  have HD4 := Aside0.mk (TN_turn4 HX.out)
  go_loopg [13] 4 (fun kq v13 w' => ∃ (i : Int) (ys : List Int) (W : World), W = w' ∧ v13 = .int .i64 i ∧ Aside0 (0 ≤ i ∧ i + kq = 4) ∧ Aside0 (ys.length = 64) ∧ Aside0 (∀ x ∈ ys, 0 ≤ x ∧ x ≤ 400) ∧ Aside0 (D_turnN kq ys = xs) ∧ Aside0 (ArrAt W w3.heap.size 42 .i16 xs) ∧ Aside0 (ArrAt W (w9.heap.size + 1) 42 .i16 ys) ∧ Aside0 (w.heap.size ≤ w9.heap.size) ∧ Aside0 (w3.heap.size < w9.heap.size) ∧ Aside0 (Below w.heap.size w W))
  case atStart => exact ⟨0, xs, _, rfl, rfl, ⟨by omega⟩, HX, HXA, HD4, N_11, No_0, HS9, HN9, HB_11⟩
  case round =>
    clear HD4 N_11 No_0 HB_11 qM qX
    obtain ⟨i, ys, W, rfl, rfl, HI, HYL, HYA, HD, HN, HO, HS9, HN9, HB⟩ := hrel
    cases gk with
    | succ k1 =>
      have hdec : decide (i < 4) = true := decide_eq_true (by have := HI.out; omega)
      have hwi : wrap64 (i + 1) = i + 1 := by have := HI.out; unfold wrap64; omega
      obtain ⟨Y, hY⟩ : ∃ Y, Y = perm 64 p_turn ys := ⟨_, rfl⟩
      have HYY := Aside0.mk (show Y.length = 64 by rw [hY, perm_len])
      have HYB := Aside0.mk (show ∀ x ∈ Y, 0 ≤ x ∧ x ≤ 400 by rw [hY]; exact TN_perm HYL.out HYA.out p_turn TN_turnR)
      have HV := Aside0.mk (show D_moved p_turn ys = (Y, 0) by rw [hY]; exact if_pos (TN_dense HYA.out))
      have HDN := Aside0.mk (show D_turnN k1 Y = xs by rw [hY]; exact HD.out)
      clear hY HD
      go_wp2_with (first | (refine arr_load rfl 42 _ rfl w3.heap.size rfl 42 .i16 xs HN.out _ Try.underlying42 rfl 64 (by kernel_rfl) HX.out ?_) | (refine arr_load rfl 42 _ rfl (w9.heap.size + 1) rfl 42 .i16 ys HO.out _ Try.underlying42 rfl 64 (by kernel_rfl) HYL.out ?_))
      refine (impl_TurnNegative.arr ys HYL.out (TN_16 HYA.out) _).mono ?_
      rintro e w21 ⟨rfl, hb⟩
      rw [HV.out]
      have HB_21 := Aside0.mk (below_step HB.out hb)
      have N_21 := Aside0.mk (ArrAt.below HN.out hb)
      have No_21 := Aside0.mk (ArrAt.below HO.out hb)
      clear hb HB HN HO
      have Nx_n := Aside0.mk (ArrAt.new w21 42 .i16 (zer 64))
      have Nx_0 := Aside0.mk (Nx_n.out.row (ys := Y))
      have hba := below_row (below_alloc (Below.refl w21.heap.size w21) (.cells (nums .i16 (zer 64)).toArray 42)) (Nat.le_refl w21.heap.size) (nums .i16 Y).toArray
      have HB_22 := Aside0.mk (below_step HB_21.out hba)
      have N_22 := Aside0.mk (ArrAt.below N_21.out hba)
      have No_22 := Aside0.mk (ArrAt.below No_21.out hba)
      clear hba HB_21 N_21 No_21
      go_wp2_with (first | (refine arr_store rfl 42 _ _ rfl w21.heap.size .i16 Y rfl rfl 42 (zer 64) Nx_n.out 64 (by kernel_rfl) (zer_len 64) HYY.out ?_) | (refine arr_load rfl 42 _ rfl w3.heap.size rfl 42 .i16 xs N_22.out _ Try.underlying42 rfl 64 (by kernel_rfl) HX.out ?_) | (refine arr_load rfl 42 _ rfl (w9.heap.size + 1) rfl 42 .i16 ys No_22.out _ Try.underlying42 rfl 64 (by kernel_rfl) HYL.out ?_) | (refine arr_load rfl 42 _ rfl w21.heap.size rfl 42 .i16 Y Nx_0.out _ Try.underlying42 rfl 64 (by kernel_rfl) HYY.out ?_))
      refine (spec_TurnNegative.arr ys HYL.out (TN_16 HYA.out) _).mono ?_
      rintro e w23 ⟨rfl, hb⟩
      rw [HV.out]
      have HB_23 := Aside0.mk (below_step HB_22.out hb)
      have N_23 := Aside0.mk (ArrAt.below N_22.out hb)
      have No_23 := Aside0.mk (ArrAt.below No_22.out hb)
      have Nx_23 := Aside0.mk (ArrAt.below Nx_0.out hb)
      clear hb HB_22 N_22 No_22 Nx_0
      have HSM := Aside0.mk (show w.heap.size ≤ w23.heap.size ∧ w9.heap.size + 1 < w23.heap.size from ⟨Below.size HB_23.out, ArrAt.lt No_23.out⟩)
      have Mo_n := Aside0.mk (ArrAt.new w23 42 .i16 (zer 64))
      have Mo_0 := Aside0.mk (Mo_n.out.row (ys := Y))
      have hba := below_row (below_alloc (Below.refl w23.heap.size w23) (.cells (nums .i16 (zer 64)).toArray 42)) (Nat.le_refl w23.heap.size) (nums .i16 Y).toArray
      have HB_24 := Aside0.mk (below_step HB_23.out hba)
      have N_24 := Aside0.mk (ArrAt.below N_23.out hba)
      have No_24 := Aside0.mk (ArrAt.below No_23.out hba)
      have Nx_24 := Aside0.mk (ArrAt.below Nx_23.out hba)
      clear hba HB_23 N_23 No_23 Nx_23
      have qY := eq_neg Y HYY.out
      go_wp2_with (first | (refine arr_store rfl 42 _ _ rfl w23.heap.size .i16 Y rfl rfl 42 (zer 64) Mo_n.out 64 (by kernel_rfl) (zer_len 64) HYY.out ?_) | (refine arr_loadG (by rfl) 42 _ rfl w3.heap.size rfl 42 .i16 xs N_24.out _ Try.underlying42 rfl 64 (by kernel_rfl) HX.out ?_) | (refine arr_loadG (by rfl) 42 _ rfl (w9.heap.size + 1) rfl 42 .i16 ys No_24.out _ Try.underlying42 rfl 64 (by kernel_rfl) HYL.out ?_) | (refine arr_loadG (by rfl) 42 _ rfl w21.heap.size rfl 42 .i16 Y Nx_24.out _ Try.underlying42 rfl 64 (by kernel_rfl) HYY.out ?_) | (refine arr_loadG (by rfl) 42 _ rfl w23.heap.size rfl 42 .i16 Y Mo_0.out _ Try.underlying42 rfl 64 (by kernel_rfl) HYY.out ?_) | (refine arr_load rfl 42 _ rfl w3.heap.size rfl 42 .i16 xs N_24.out _ Try.underlying42 rfl 64 (by kernel_rfl) HX.out ?_) | (refine arr_load rfl 42 _ rfl (w9.heap.size + 1) rfl 42 .i16 ys No_24.out _ Try.underlying42 rfl 64 (by kernel_rfl) HYL.out ?_) | (refine arr_load rfl 42 _ rfl w21.heap.size rfl 42 .i16 Y Nx_24.out _ Try.underlying42 rfl 64 (by kernel_rfl) HYY.out ?_) | (refine arr_load rfl 42 _ rfl w23.heap.size rfl 42 .i16 Y Mo_0.out _ Try.underlying42 rfl 64 (by kernel_rfl) HYY.out ?_) | (refine arr_store rfl 42 _ _ rfl (w9.heap.size + 1) .i16 Y rfl rfl 42 ys No_24.out 64 (by kernel_rfl) HYL.out HYY.out ?_))
      go_roundg k1
      case measure => omega
      case rel =>
        refine ⟨i + 1, Y, _, rfl, (by first | rfl | exact congrArg (Value.int .i64) hwi), ⟨by have := HI.out; omega⟩, HYY, HYB, HDN, ⟨(N_24.out).rowOther (by have := HN9.out; omega) _⟩, ⟨(No_24.out).row⟩, HS9, HN9, ⟨below_row HB_24.out (by have := HS9.out; omega) _⟩⟩
    | zero =>
      have hdec : decide (i < 4) = false := decide_eq_false (by have := HI.out; omega)
      obtain rfl : xs = ys := HD.out.symm
      clear HYL HYA HD HI
      obtain ⟨x, ex, x0, x1⟩ := TN_pick HS0.out 5 (by omega)
      have Ex := Aside0.mk ex
      have Bx := Aside0.mk (show 0 ≤ x ∧ x < 5 from ⟨x0, x1⟩)
      clear ex x0 x1
      obtain ⟨y, ey, y0, y1⟩ := TN_pick HS1.out 5 (by omega)
      have Ey := Aside0.mk ey
      have By := Aside0.mk (show 0 ≤ y ∧ y < 5 from ⟨y0, y1⟩)
      clear ey y0 y1
      obtain ⟨tt, ett, tt0, tt1⟩ := TN_pick HS1.out 60 (by omega)
      have Ett := Aside0.mk ett
      have Btt := Aside0.mk (show 0 ≤ tt ∧ tt < 60 from ⟨tt0, tt1⟩)
      clear ett tt0 tt1
      obtain ⟨we, ewe, we0, we1⟩ := TN_pick HS0.out 8 (by omega)
      have Ewe := Aside0.mk ewe
      have Bwe := Aside0.mk (show 0 ≤ we ∧ we < 8 from ⟨we0, we1⟩)
      clear ewe we0 we1
      obtain ⟨no, eno, no0, no1⟩ := TN_pick HS1.out 8 (by omega)
      have Eno := Aside0.mk eno
      have Bno := Aside0.mk (show 0 ≤ no ∧ no < 8 from ⟨no0, no1⟩)
      clear eno no0 no1
      obtain ⟨E, hE⟩ : ∃ E, E = perm 64 (p_enl x y) xs := ⟨_, rfl⟩
      have HEL := Aside0.mk (show E.length = 64 by rw [hE, perm_len])
      have HEE := Aside0.mk hE
      have HV5 := Aside0.mk (show D_enl x y xs = (E, 0) by rw [hE]; unfold D_enl; rw [if_pos (TN_dense HXA.out), if_pos (by have := Bx.out; have := By.out; omega)])
      clear hE
      go_wp2_with fail
      refine (spec_P6Pick.calls _ _ l0 5 x _ (Kd.C_below HR0.out HB.out) HC0.out Ex.out).mono ?_
      rintro e w41 ⟨rfl, hb⟩
      have HB_41 := Aside0.mk (below_step HB.out hb)
      have N_41 := Aside0.mk (ArrAt.below HN.out hb)
      have No_41 := Aside0.mk (ArrAt.below HO.out hb)
      clear hb HB HN HO
      go_wp2_with fail
      refine (spec_P6Pick.calls _ _ l1 5 y _ (Kd.C_below HR1.out HB_41.out) HC1.out Ey.out).mono ?_
      rintro e w42 ⟨rfl, hb⟩
      have HB_42 := Aside0.mk (below_step HB_41.out hb)
      have N_42 := Aside0.mk (ArrAt.below N_41.out hb)
      have No_42 := Aside0.mk (ArrAt.below No_41.out hb)
      clear hb HB_41 N_41 No_41
      go_wp2_with (first | (refine arr_load rfl 42 _ rfl w3.heap.size rfl 42 .i16 xs N_42.out _ Try.underlying42 rfl 64 (by kernel_rfl) HX.out ?_) | (refine arr_load rfl 42 _ rfl (w9.heap.size + 1) rfl 42 .i16 xs No_42.out _ Try.underlying42 rfl 64 (by kernel_rfl) HX.out ?_))
      refine (impl_EnlargePart.arr xs HX.out (TN_16 HXA.out) x y _).mono ?_
      rintro e w43 ⟨rfl, hb⟩
      rw [HV5.out]
      have HB_43 := Aside0.mk (below_step HB_42.out hb)
      have N_43 := Aside0.mk (ArrAt.below N_42.out hb)
      have No_43 := Aside0.mk (ArrAt.below No_42.out hb)
      clear hb HB_42 N_42 No_42
      have HSB := Aside0.mk (show w.heap.size ≤ w43.heap.size from Below.size HB_43.out)
      have Bi_n := Aside0.mk (ArrAt.new w43 42 .i16 (zer 64))
      have Bi_0 := Aside0.mk (Bi_n.out.row (ys := E))
      have hba := below_row (below_alloc (Below.refl w43.heap.size w43) (.cells (nums .i16 (zer 64)).toArray 42)) (Nat.le_refl w43.heap.size) (nums .i16 E).toArray
      have HB_44 := Aside0.mk (below_step HB_43.out hba)
      have N_44 := Aside0.mk (ArrAt.below N_43.out hba)
      have No_44 := Aside0.mk (ArrAt.below No_43.out hba)
      clear hba HB_43 N_43 No_43
      have qX := eq_neg xs HX.out
      go_wp2_with (first | (refine arr_store rfl 42 _ _ rfl w43.heap.size .i16 E rfl rfl 42 (zer 64) Bi_n.out 64 (by kernel_rfl) (zer_len 64) HEL.out ?_) | (refine arr_load rfl 42 _ rfl w3.heap.size rfl 42 .i16 xs N_44.out _ Try.underlying42 rfl 64 (by kernel_rfl) HX.out ?_) | (refine arr_load rfl 42 _ rfl (w9.heap.size + 1) rfl 42 .i16 xs No_44.out _ Try.underlying42 rfl 64 (by kernel_rfl) HX.out ?_) | (refine arr_load rfl 42 _ rfl w43.heap.size rfl 42 .i16 E Bi_0.out _ Try.underlying42 rfl 64 (by kernel_rfl) HEL.out ?_))
      go_loopg [22] 64 (fun kq v22 w' => ∃ (i : Int) (W : World), W = w' ∧ v22 = .int .i64 i ∧ Aside0 (0 ≤ i ∧ i + kq = 64) ∧ Aside0 (ArrAt W w3.heap.size 42 .i16 xs) ∧ Aside0 (ArrAt W w43.heap.size 42 .i16 E) ∧ Aside0 (Below w.heap.size w W))
      case atStart => exact ⟨0, _, rfl, rfl, ⟨by omega⟩, N_44, Bi_0, HB_44⟩
      case round =>
        clear qX N_44 No_44 Bi_0 HB_44
        obtain ⟨i, W, rfl, rfl, HI, HN, HE, HB⟩ := hrel
        cases gk with
        | succ k1 =>
          have h0 : 0 ≤ i := HI.out.1
          have hi : i < 64 := by have := HI.out.2; omega
          have hdec : decide (i < 64) = true := decide_eq_true hi
          have hwi : wrap64 (i + 1) = i + 1 := by unfold wrap64; omega
          have x0 := Bx.out
          have y0 := By.out
          have p0 : 0 ≤ x + i % 8 / 2 + 8 * (y + i / 8 / 2) := by omega
          have p1 : x + i % 8 / 2 + 8 * (y + i / 8 / 2) < 64 := by omega
          have t1 : i.tmod 8 = i % 8 := Int.tmod_eq_emod_of_nonneg h0
          have t2 : (i % 8).tdiv 2 = i % 8 / 2 := Int.tdiv_eq_ediv_of_nonneg (by omega)
          have t3 : i.tdiv 8 = i / 8 := Int.tdiv_eq_ediv_of_nonneg h0
          have t4 : (i / 8).tdiv 2 = i / 8 / 2 := Int.tdiv_eq_ediv_of_nonneg (by omega)
          have u0 : IntKind.i64.wrap (i / 8) = i / 8 := by simp [IntKind.wrap, IntKind.bits, IntKind.signed]; omega
          have u1 : IntKind.i64.wrap (i % 8 / 2) = i % 8 / 2 := by simp [IntKind.wrap, IntKind.bits, IntKind.signed]; omega
          have u2 : IntKind.i64.wrap (i / 8 / 2) = i / 8 / 2 := by simp [IntKind.wrap, IntKind.bits, IntKind.signed]; omega
          have v1 : IntKind.i64.wrap (x + i % 8 / 2) = x + i % 8 / 2 := by simp [IntKind.wrap, IntKind.bits, IntKind.signed]; omega
          have v2 : IntKind.i64.wrap (y + i / 8 / 2) = y + i / 8 / 2 := by simp [IntKind.wrap, IntKind.bits, IntKind.signed]; omega
          have v3 : IntKind.i64.wrap (8 * (y + i / 8 / 2)) = 8 * (y + i / 8 / 2) := by simp [IntKind.wrap, IntKind.bits, IntKind.signed]; omega
          have v4 : IntKind.i64.wrap (x + i % 8 / 2 + 8 * (y + i / 8 / 2)) = x + i % 8 / 2 + 8 * (y + i / 8 / 2) := by simp [IntKind.wrap, IntKind.bits, IntKind.signed]; omega
          have c1 : W.cell? ⟨w43.heap.size, i.toNat, none⟩ = some (.int .i16 (rd xs (x + i % 8 / 2 + 8 * (y + i / 8 / 2)))) := by
            have h_ := HE.out.cell h0 (by rw [HEL.out]; omega)
            rw [HEE.out, rd_perm (p := p_enl x y) h0 hi] at h_
            exact h_
          have c2 : W.cell? ⟨w3.heap.size, (x + i % 8 / 2 + 8 * (y + i / 8 / 2)).toNat, none⟩ = some (.int .i16 (rd xs (x + i % 8 / 2 + 8 * (y + i / 8 / 2)))) := HN.out.cell p0 (by rw [HX.out]; omega)
          go_wp2_with fail
          go_region_held3 (fun w' => w'.cell? ⟨w43.heap.size, i.toNat, none⟩ = some (.int .i16 (rd xs (x + i % 8 / 2 + 8 * (y + i / 8 / 2)))) ∧ w'.cell? ⟨w3.heap.size, (x + i % 8 / 2 + 8 * (y + i / 8 / 2)).toNat, none⟩ = some (.int .i16 (rd xs (x + i % 8 / 2 + 8 * (y + i / 8 / 2))))) (first | go_keep) (fail)
          go_wp2_with fail
          go_roundg k1
          case measure => omega
          case rel => exact ⟨i + 1, _, rfl, (by first | rfl | exact congrArg (Value.int .i64) hwi), ⟨by have := HI.out; omega⟩, ⟨blk_drew HN.out⟩, ⟨blk_drew HE.out⟩, ⟨below_drew1 HB.out⟩⟩
        | zero =>
          have hdec : decide (i < 64) = false := decide_eq_false (by have := HI.out; omega)
          clear HN HE HI
          go_wp2_with fail
          refine (spec_P6Copies.arr _ _ l0 _ (Kd.C_below HR0.out HB.out) HC0.out HS0.out).mono ?_
          rintro e w81 ⟨v, xsa, rfl, ho, hn, hcs, hb⟩
          obtain ⟨ga, capa, za, rfl, hra, hca⟩ := TN_copy ho hn hcs
          have HLA := Aside0.mk hca
          have RA0 := Aside0.mk hra
          have LNA : (0 < xsa.length) = True := eq_true (by omega)
          clear ho hn hcs hra hca
          have HB_81 := Aside0.mk (below_step HB.out hb)
          clear hb HB
          go_wp2_with fail
          refine (spec_P6Copies.arr _ _ l1 _ (Kd.C_below HR1.out HB_81.out) HC1.out HS1.out).mono ?_
          rintro e w82 ⟨v, xsb, rfl, ho, hn, hcs, hb⟩
          obtain ⟨gb, capb, zb, rfl, hra, hca⟩ := TN_copy ho hn hcs
          have HLB := Aside0.mk hca
          have RB0 := Aside0.mk hra
          have LNB : (0 < xsb.length) = True := eq_true (by omega)
          clear ho hn hcs hra hca
          have RA_82 := Aside0.mk (RngAt.below RA0.out hb)
          have HB_82 := Aside0.mk (below_step HB_81.out hb)
          clear hb HB_81
          clear RA0
          go_wp2_with fail
          refine (spec_P6Pick.calls _ _ l1 60 tt _ (Kd.C_below HR1.out HB_82.out) HC1.out Ett.out).mono ?_
          rintro e w83 ⟨rfl, hb⟩
          have RA_83 := Aside0.mk (RngAt.below RA_82.out hb)
          have RB_83 := Aside0.mk (RngAt.below RB0.out hb)
          have HB_83 := Aside0.mk (below_step HB_82.out hb)
          clear hb HB_82
          clear RA_82 RB0
          obtain ⟨DF, hDF⟩ : ∃ DF, DF = D_diffFrom za zb tt 64 0 0 := ⟨_, rfl⟩
          have HDF := Aside0.mk hDF
          have HV6 := Aside0.mk (show D_differ za zb tt = (DF, 0) by rw [hDF]; unfold D_differ; rw [if_pos ⟨TN_dense HLA.out.2, TN_dense HLB.out.2⟩, if_pos (by have := Btt.out; omega)])
          obtain ⟨G, hG⟩ : ∃ G, G = D_great za zb := ⟨_, rfl⟩
          have HGG := Aside0.mk hG
          clear hDF hG
          go_wp2_with fail
          refine wp_region_held_drew (S := (fun w' => RngAt w' ga za ∧ RngAt w' gb zb ∧ Below w.heap.size w w')) (by kernel_rfl) ⟨RA_83.out, RB_83.out, below_drew1 HB_83.out⟩ (fun hHeld => ?_)
          clear RA_83 RB_83 HB_83
          refine wpAnyH_take (i := 0) (v := ?_) rfl (by kernel_rfl) (by kernel_rfl) (by kernel_rfl) (fun _ _ _ h => h) (Or.inl ⟨by rfl, ?_⟩) (by assumption) ?_
          rotate_left
          · intro w hSw
            go_simp
            with_reducible rfl
          try simp only [List.getElem_toArray, List.getElem_cons_succ, List.getElem_cons_zero, Act.put, List.setIfInBounds_toArray, List.set_cons_zero, List.set_cons_succ]
          refine wpAnyH_take (i := 1) (v := ?_) rfl (by kernel_rfl) (by kernel_rfl) (by kernel_rfl) (fun _ _ _ h => h) (Or.inl ⟨by rfl, ?_⟩) (by assumption) ?_
          rotate_left
          · intro w hSw
            go_simp
            with_reducible rfl
          try simp only [List.getElem_toArray, List.getElem_cons_succ, List.getElem_cons_zero, Act.put, List.setIfInBounds_toArray, List.set_cons_zero, List.set_cons_succ]
          refine wpAnyH_take (i := 2) (v := .agg (nums .i16 za).toArray) rfl (by kernel_rfl) (by kernel_rfl) (by kernel_rfl) (fun _ _ _ h => h) (yieldsIf_load_mid (by rfl) _ _ rfl _ _ rfl _ _ (fun w' h => h.1.2) Try.underlying39 rfl (by rw [show (nums .i16 za).length = 64 by simp [nums, HLA.out.1]]; kernel_rfl)) (by assumption) ?_
          try simp only [List.getElem_toArray, List.getElem_cons_succ, List.getElem_cons_zero, Act.put, List.setIfInBounds_toArray, List.set_cons_zero, List.set_cons_succ]
          refine wpAnyH_take (i := 3) (v := ?_) rfl (by kernel_rfl) (by kernel_rfl) (by kernel_rfl) (fun _ _ _ h => h) (Or.inl ⟨by rfl, ?_⟩) (by assumption) ?_
          rotate_left
          · intro w hSw
            go_simp
            with_reducible rfl
          try simp only [List.getElem_toArray, List.getElem_cons_succ, List.getElem_cons_zero, Act.put, List.setIfInBounds_toArray, List.set_cons_zero, List.set_cons_succ]
          refine wpAnyH_take (i := 4) (v := ?_) rfl (by kernel_rfl) (by kernel_rfl) (by kernel_rfl) (fun _ _ _ h => h) (Or.inl ⟨by rfl, ?_⟩) (by assumption) ?_
          rotate_left
          · intro w hSw
            go_simp
            with_reducible rfl
          try simp only [List.getElem_toArray, List.getElem_cons_succ, List.getElem_cons_zero, Act.put, List.setIfInBounds_toArray, List.set_cons_zero, List.set_cons_succ]
          refine wpAnyH_take (i := 5) (v := .agg (nums .i16 zb).toArray) rfl (by kernel_rfl) (by kernel_rfl) (by kernel_rfl) (fun _ _ _ h => h) (yieldsIf_load_mid (by rfl) _ _ rfl _ _ rfl _ _ (fun w' h => h.2.1.2) Try.underlying39 rfl (by rw [show (nums .i16 zb).length = 64 by simp [nums, HLB.out.1]]; kernel_rfl)) (by assumption) ?_
          try simp only [List.getElem_toArray, List.getElem_cons_succ, List.getElem_cons_zero, Act.put, List.setIfInBounds_toArray, List.set_cons_zero, List.set_cons_succ]
          refine wpAnyH_take (i := 6) (v := ?_) rfl (by kernel_rfl) (by kernel_rfl) (by kernel_rfl) (fun _ _ _ h => h) (Or.inl ⟨by rfl, ?_⟩) (by assumption) ?_
          rotate_left
          · intro w hSw
            go_simp
            with_reducible rfl
          try simp only [List.getElem_toArray, List.getElem_cons_succ, List.getElem_cons_zero, Act.put, List.setIfInBounds_toArray, List.set_cons_zero, List.set_cons_succ]
          refine wpAnyH_ready (rs := [7]) (by kernel_rfl) (by simp) ?_
          refine AllReadyH.cons rfl (fun K hK => ?_) AllReadyH.nil
          obtain ⟨q1, q2, q3⟩ := hHeld
          go_simp
          refine (impl_DifferIn.arr za zb HLA.out.1 (TN_16 HLA.out.2) HLB.out.1 (TN_16 HLB.out.2) tt _).mono ?_
          rintro e w84 ⟨rfl, hb⟩
          rw [HV6.out]
          go_wp2_with fail
          refine hK.out _ _ ⟨q1.below hb, q2.below hb, below_step q3 hb⟩ (fun hHeld => ?_)
          clear hK K hb q1 q2 q3
          try simp only [List.getElem_toArray, List.getElem_cons_succ, List.getElem_cons_zero, Act.put, List.setIfInBounds_toArray, List.set_cons_zero, List.set_cons_succ]
          refine wpAnyH_take (i := 8) (v := ?_) rfl (by kernel_rfl) (by kernel_rfl) (by kernel_rfl) (fun _ _ _ h => h) (Or.inl ⟨by rfl, ?_⟩) (by assumption) ?_
          rotate_left
          · intro w hSw
            go_simp
            with_reducible rfl
          try simp only [List.getElem_toArray, List.getElem_cons_succ, List.getElem_cons_zero, Act.put, List.setIfInBounds_toArray, List.set_cons_zero, List.set_cons_succ]
          refine wpAnyH_take (i := 9) (v := ?_) rfl (by kernel_rfl) (by kernel_rfl) (by kernel_rfl) (fun _ _ _ h => h) (Or.inl ⟨by rfl, ?_⟩) (by assumption) ?_
          rotate_left
          · intro w hSw
            go_simp
            with_reducible rfl
          try simp only [List.getElem_toArray, List.getElem_cons_succ, List.getElem_cons_zero, Act.put, List.setIfInBounds_toArray, List.set_cons_zero, List.set_cons_succ]
          refine wpAnyH_take (i := 10) (v := ?_) rfl (by kernel_rfl) (by kernel_rfl) (by kernel_rfl) (fun _ _ _ h => h) (Or.inl ⟨by rfl, ?_⟩) (by assumption) ?_
          rotate_left
          · intro w hSw
            go_simp
            with_reducible rfl
          try simp only [List.getElem_toArray, List.getElem_cons_succ, List.getElem_cons_zero, Act.put, List.setIfInBounds_toArray, List.set_cons_zero, List.set_cons_succ]
          refine wpAnyH_take (i := 11) (v := ?_) rfl (by kernel_rfl) (by kernel_rfl) (by kernel_rfl) (fun _ _ _ h => h) (Or.inl ⟨by rfl, ?_⟩) (by assumption) ?_
          rotate_left
          · intro w hSw
            go_simp
            with_reducible rfl
          try simp only [List.getElem_toArray, List.getElem_cons_succ, List.getElem_cons_zero, Act.put, List.setIfInBounds_toArray, List.set_cons_zero, List.set_cons_succ]
          refine wpAnyH_take (i := 12) (v := ?_) rfl (by kernel_rfl) (by kernel_rfl) (by kernel_rfl) (fun _ _ _ h => h) (Or.inl ⟨by rfl, ?_⟩) (by assumption) ?_
          rotate_left
          · intro w hSw
            go_simp
            with_reducible rfl
          try simp only [List.getElem_toArray, List.getElem_cons_succ, List.getElem_cons_zero, Act.put, List.setIfInBounds_toArray, List.set_cons_zero, List.set_cons_succ]
          have RA_84 := Aside0.mk hHeld.1
          have RB_84 := Aside0.mk hHeld.2.1
          have HB_84 := Aside0.mk hHeld.2.2
          refine wpAnyH_done (by kernel_rfl) ?_ _
          clear hHeld
          go_wp2_with fail
          refine wp_region_held_drew (S := (fun w' => RngAt w' ga za ∧ RngAt w' gb zb ∧ Below w.heap.size w w')) (by kernel_rfl) ⟨RA_84.out, RB_84.out, below_drew1 HB_84.out⟩ (fun hHeld => ?_)
          clear RA_84 RB_84 HB_84
          refine wpAnyH_take (i := 0) (v := ?_) rfl (by kernel_rfl) (by kernel_rfl) (by kernel_rfl) (fun _ _ _ h => h) (Or.inl ⟨by rfl, ?_⟩) (by assumption) ?_
          rotate_left
          · intro w hSw
            go_simp
            with_reducible rfl
          try simp only [List.getElem_toArray, List.getElem_cons_succ, List.getElem_cons_zero, Act.put, List.setIfInBounds_toArray, List.set_cons_zero, List.set_cons_succ]
          refine wpAnyH_take (i := 1) (v := ?_) rfl (by kernel_rfl) (by kernel_rfl) (by kernel_rfl) (fun _ _ _ h => h) (Or.inl ⟨by rfl, ?_⟩) (by assumption) ?_
          rotate_left
          · intro w hSw
            go_simp
            with_reducible rfl
          try simp only [List.getElem_toArray, List.getElem_cons_succ, List.getElem_cons_zero, Act.put, List.setIfInBounds_toArray, List.set_cons_zero, List.set_cons_succ]
          refine wpAnyH_take (i := 2) (v := .agg (nums .i16 za).toArray) rfl (by kernel_rfl) (by kernel_rfl) (by kernel_rfl) (fun _ _ _ h => h) (yieldsIf_load_mid (by rfl) _ _ rfl _ _ rfl _ _ (fun w' h => h.1.2) Try.underlying39 rfl (by rw [show (nums .i16 za).length = 64 by simp [nums, HLA.out.1]]; kernel_rfl)) (by assumption) ?_
          try simp only [List.getElem_toArray, List.getElem_cons_succ, List.getElem_cons_zero, Act.put, List.setIfInBounds_toArray, List.set_cons_zero, List.set_cons_succ]
          refine wpAnyH_take (i := 3) (v := ?_) rfl (by kernel_rfl) (by kernel_rfl) (by kernel_rfl) (fun _ _ _ h => h) (Or.inl ⟨by rfl, ?_⟩) (by assumption) ?_
          rotate_left
          · intro w hSw
            go_simp
            with_reducible rfl
          try simp only [List.getElem_toArray, List.getElem_cons_succ, List.getElem_cons_zero, Act.put, List.setIfInBounds_toArray, List.set_cons_zero, List.set_cons_succ]
          refine wpAnyH_take (i := 4) (v := ?_) rfl (by kernel_rfl) (by kernel_rfl) (by kernel_rfl) (fun _ _ _ h => h) (Or.inl ⟨by rfl, ?_⟩) (by assumption) ?_
          rotate_left
          · intro w hSw
            go_simp
            with_reducible rfl
          try simp only [List.getElem_toArray, List.getElem_cons_succ, List.getElem_cons_zero, Act.put, List.setIfInBounds_toArray, List.set_cons_zero, List.set_cons_succ]
          refine wpAnyH_take (i := 5) (v := .agg (nums .i16 zb).toArray) rfl (by kernel_rfl) (by kernel_rfl) (by kernel_rfl) (fun _ _ _ h => h) (yieldsIf_load_mid (by rfl) _ _ rfl _ _ rfl _ _ (fun w' h => h.2.1.2) Try.underlying39 rfl (by rw [show (nums .i16 zb).length = 64 by simp [nums, HLB.out.1]]; kernel_rfl)) (by assumption) ?_
          try simp only [List.getElem_toArray, List.getElem_cons_succ, List.getElem_cons_zero, Act.put, List.setIfInBounds_toArray, List.set_cons_zero, List.set_cons_succ]
          refine wpAnyH_ready (rs := [6]) (by kernel_rfl) (by simp) ?_
          refine AllReadyH.cons rfl (fun K hK => ?_) AllReadyH.nil
          obtain ⟨q1, q2, q3⟩ := hHeld
          go_simp
          refine (impl_GreatestDifference.arr za zb HLA.out.1 (TN_16 HLA.out.2) HLB.out.1 (TN_16 HLB.out.2) (TN_dense HLA.out.2) (TN_dense HLB.out.2) _).mono ?_
          rintro e w85 ⟨rfl, hb⟩
          rw [← HGG.out]
          go_wp2_with fail
          refine hK.out _ _ ⟨q1.below hb, q2.below hb, below_step q3 hb⟩ (fun hHeld => ?_)
          clear hK K hb q1 q2 q3
          try simp only [List.getElem_toArray, List.getElem_cons_succ, List.getElem_cons_zero, Act.put, List.setIfInBounds_toArray, List.set_cons_zero, List.set_cons_succ]
          refine wpAnyH_take (i := 7) (v := ?_) rfl (by kernel_rfl) (by kernel_rfl) (by kernel_rfl) (fun _ _ _ h => h) (Or.inl ⟨by rfl, ?_⟩) (by assumption) ?_
          rotate_left
          · intro w hSw
            go_simp
            with_reducible rfl
          try simp only [List.getElem_toArray, List.getElem_cons_succ, List.getElem_cons_zero, Act.put, List.setIfInBounds_toArray, List.set_cons_zero, List.set_cons_succ]
          refine wpAnyH_take (i := 8) (v := ?_) rfl (by kernel_rfl) (by kernel_rfl) (by kernel_rfl) (fun _ _ _ h => h) (Or.inl ⟨by rfl, ?_⟩) (by assumption) ?_
          rotate_left
          · intro w hSw
            go_simp
            with_reducible rfl
          try simp only [List.getElem_toArray, List.getElem_cons_succ, List.getElem_cons_zero, Act.put, List.setIfInBounds_toArray, List.set_cons_zero, List.set_cons_succ]
          refine wpAnyH_take (i := 9) (v := ?_) rfl (by kernel_rfl) (by kernel_rfl) (by kernel_rfl) (fun _ _ _ h => h) (Or.inl ⟨by rfl, ?_⟩) (by assumption) ?_
          rotate_left
          · intro w hSw
            go_simp
            with_reducible rfl
          try simp only [List.getElem_toArray, List.getElem_cons_succ, List.getElem_cons_zero, Act.put, List.setIfInBounds_toArray, List.set_cons_zero, List.set_cons_succ]
          refine wpAnyH_take (i := 10) (v := ?_) rfl (by kernel_rfl) (by kernel_rfl) (by kernel_rfl) (fun _ _ _ h => h) (Or.inl ⟨by rfl, ?_⟩) (by assumption) ?_
          rotate_left
          · intro w hSw
            go_simp
            with_reducible rfl
          try simp only [List.getElem_toArray, List.getElem_cons_succ, List.getElem_cons_zero, Act.put, List.setIfInBounds_toArray, List.set_cons_zero, List.set_cons_succ]
          refine wpAnyH_take (i := 11) (v := ?_) rfl (by kernel_rfl) (by kernel_rfl) (by kernel_rfl) (fun _ _ _ h => h) (Or.inl ⟨by rfl, ?_⟩) (by assumption) ?_
          rotate_left
          · intro w hSw
            go_simp
            with_reducible rfl
          try simp only [List.getElem_toArray, List.getElem_cons_succ, List.getElem_cons_zero, Act.put, List.setIfInBounds_toArray, List.set_cons_zero, List.set_cons_succ]
          refine wpAnyH_take (i := 12) (v := ?_) rfl (by kernel_rfl) (by kernel_rfl) (by kernel_rfl) (fun _ _ _ h => h) (Or.inl ⟨by rfl, ?_⟩) (by assumption) ?_
          rotate_left
          · intro w hSw
            go_simp
            with_reducible rfl
          try simp only [List.getElem_toArray, List.getElem_cons_succ, List.getElem_cons_zero, Act.put, List.setIfInBounds_toArray, List.set_cons_zero, List.set_cons_succ]
          refine wpAnyH_take (i := 13) (v := ?_) rfl (by kernel_rfl) (by kernel_rfl) (by kernel_rfl) (fun _ _ _ h => h) (Or.inl ⟨by rfl, ?_⟩) (by assumption) ?_
          rotate_left
          · intro w hSw
            go_simp
            with_reducible rfl
          try simp only [List.getElem_toArray, List.getElem_cons_succ, List.getElem_cons_zero, Act.put, List.setIfInBounds_toArray, List.set_cons_zero, List.set_cons_succ]
          have RA_85 := Aside0.mk hHeld.1
          have RB_85 := Aside0.mk hHeld.2.1
          have HB_85 := Aside0.mk hHeld.2.2
          refine wpAnyH_done (by kernel_rfl) ?_ _
          clear hHeld
          go_wp2_with fail
          refine wp_region_held_drew (S := (fun w' => RngAt w' ga za ∧ RngAt w' gb zb ∧ Below w.heap.size w w')) (by kernel_rfl) ⟨RA_85.out, RB_85.out, below_drew1 HB_85.out⟩ (fun hHeld => ?_)
          clear RA_85 RB_85 HB_85
          refine wpAnyH_take (i := 0) (v := ?_) rfl (by kernel_rfl) (by kernel_rfl) (by kernel_rfl) (fun _ _ _ h => h) (Or.inl ⟨by rfl, ?_⟩) (by assumption) ?_
          rotate_left
          · intro w hSw
            go_simp
            with_reducible rfl
          try simp only [List.getElem_toArray, List.getElem_cons_succ, List.getElem_cons_zero, Act.put, List.setIfInBounds_toArray, List.set_cons_zero, List.set_cons_succ]
          refine wpAnyH_take (i := 1) (v := ?_) rfl (by kernel_rfl) (by kernel_rfl) (by kernel_rfl) (fun _ _ _ h => h) (Or.inl ⟨by rfl, ?_⟩) (by assumption) ?_
          rotate_left
          · intro w hSw
            go_simp
            with_reducible rfl
          try simp only [List.getElem_toArray, List.getElem_cons_succ, List.getElem_cons_zero, Act.put, List.setIfInBounds_toArray, List.set_cons_zero, List.set_cons_succ]
          refine wpAnyH_take (i := 2) (v := .agg (nums .i16 za).toArray) rfl (by kernel_rfl) (by kernel_rfl) (by kernel_rfl) (fun _ _ _ h => h) (yieldsIf_load_mid (by rfl) _ _ rfl _ _ rfl _ _ (fun w' h => h.1.2) Try.underlying39 rfl (by rw [show (nums .i16 za).length = 64 by simp [nums, HLA.out.1]]; kernel_rfl)) (by assumption) ?_
          try simp only [List.getElem_toArray, List.getElem_cons_succ, List.getElem_cons_zero, Act.put, List.setIfInBounds_toArray, List.set_cons_zero, List.set_cons_succ]
          refine wpAnyH_take (i := 3) (v := ?_) rfl (by kernel_rfl) (by kernel_rfl) (by kernel_rfl) (fun _ _ _ h => h) (Or.inl ⟨by rfl, ?_⟩) (by assumption) ?_
          rotate_left
          · intro w hSw
            go_simp
            with_reducible rfl
          try simp only [List.getElem_toArray, List.getElem_cons_succ, List.getElem_cons_zero, Act.put, List.setIfInBounds_toArray, List.set_cons_zero, List.set_cons_succ]
          refine wpAnyH_take (i := 4) (v := ?_) rfl (by kernel_rfl) (by kernel_rfl) (by kernel_rfl) (fun _ _ _ h => h) (Or.inl ⟨by rfl, ?_⟩) (by assumption) ?_
          rotate_left
          · intro w hSw
            go_simp
            with_reducible rfl
          try simp only [List.getElem_toArray, List.getElem_cons_succ, List.getElem_cons_zero, Act.put, List.setIfInBounds_toArray, List.set_cons_zero, List.set_cons_succ]
          refine wpAnyH_take (i := 5) (v := .agg (nums .i16 zb).toArray) rfl (by kernel_rfl) (by kernel_rfl) (by kernel_rfl) (fun _ _ _ h => h) (yieldsIf_load_mid (by rfl) _ _ rfl _ _ rfl _ _ (fun w' h => h.2.1.2) Try.underlying39 rfl (by rw [show (nums .i16 zb).length = 64 by simp [nums, HLB.out.1]]; kernel_rfl)) (by assumption) ?_
          try simp only [List.getElem_toArray, List.getElem_cons_succ, List.getElem_cons_zero, Act.put, List.setIfInBounds_toArray, List.set_cons_zero, List.set_cons_succ]
          refine wpAnyH_ready (rs := [6]) (by kernel_rfl) (by simp) ?_
          refine AllReadyH.cons rfl (fun K hK => ?_) AllReadyH.nil
          obtain ⟨q1, q2, q3⟩ := hHeld
          go_simp
          refine (spec_GreatestDifference.arr za zb HLA.out.1 (TN_16 HLA.out.2) HLB.out.1 (TN_16 HLB.out.2) (TN_dense HLA.out.2) (TN_dense HLB.out.2) _).mono ?_
          rintro e w86 ⟨rfl, hb⟩
          rw [← HGG.out]
          go_wp2_with fail
          refine hK.out _ _ ⟨q1.below hb, q2.below hb, below_step q3 hb⟩ (fun hHeld => ?_)
          clear hK K hb q1 q2 q3
          try simp only [List.getElem_toArray, List.getElem_cons_succ, List.getElem_cons_zero, Act.put, List.setIfInBounds_toArray, List.set_cons_zero, List.set_cons_succ]
          refine wpAnyH_take (i := 7) (v := ?_) rfl (by kernel_rfl) (by kernel_rfl) (by kernel_rfl) (fun _ _ _ h => h) (Or.inl ⟨by rfl, ?_⟩) (by assumption) ?_
          rotate_left
          · intro w hSw
            go_simp
            with_reducible rfl
          try simp only [List.getElem_toArray, List.getElem_cons_succ, List.getElem_cons_zero, Act.put, List.setIfInBounds_toArray, List.set_cons_zero, List.set_cons_succ]
          refine wpAnyH_take (i := 8) (v := ?_) rfl (by kernel_rfl) (by kernel_rfl) (by kernel_rfl) (fun _ _ _ h => h) (Or.inl ⟨by rfl, ?_⟩) (by assumption) ?_
          rotate_left
          · intro w hSw
            go_simp
            with_reducible rfl
          try simp only [List.getElem_toArray, List.getElem_cons_succ, List.getElem_cons_zero, Act.put, List.setIfInBounds_toArray, List.set_cons_zero, List.set_cons_succ]
          refine wpAnyH_take (i := 9) (v := ?_) rfl (by kernel_rfl) (by kernel_rfl) (by kernel_rfl) (fun _ _ _ h => h) (Or.inl ⟨by rfl, ?_⟩) (by assumption) ?_
          rotate_left
          · intro w hSw
            go_simp
            with_reducible rfl
          try simp only [List.getElem_toArray, List.getElem_cons_succ, List.getElem_cons_zero, Act.put, List.setIfInBounds_toArray, List.set_cons_zero, List.set_cons_succ]
          refine wpAnyH_take (i := 10) (v := ?_) rfl (by kernel_rfl) (by kernel_rfl) (by kernel_rfl) (fun _ _ _ h => h) (Or.inl ⟨by rfl, ?_⟩) (by assumption) ?_
          rotate_left
          · intro w hSw
            go_simp
            with_reducible rfl
          try simp only [List.getElem_toArray, List.getElem_cons_succ, List.getElem_cons_zero, Act.put, List.setIfInBounds_toArray, List.set_cons_zero, List.set_cons_succ]
          refine wpAnyH_take (i := 11) (v := ?_) rfl (by kernel_rfl) (by kernel_rfl) (by kernel_rfl) (fun _ _ _ h => h) (Or.inl ⟨by rfl, ?_⟩) (by assumption) ?_
          rotate_left
          · intro w hSw
            go_simp
            with_reducible rfl
          try simp only [List.getElem_toArray, List.getElem_cons_succ, List.getElem_cons_zero, Act.put, List.setIfInBounds_toArray, List.set_cons_zero, List.set_cons_succ]
          refine wpAnyH_take (i := 12) (v := ?_) rfl (by kernel_rfl) (by kernel_rfl) (by kernel_rfl) (fun _ _ _ h => h) (Or.inl ⟨by rfl, ?_⟩) (by assumption) ?_
          rotate_left
          · intro w hSw
            go_simp
            with_reducible rfl
          try simp only [List.getElem_toArray, List.getElem_cons_succ, List.getElem_cons_zero, Act.put, List.setIfInBounds_toArray, List.set_cons_zero, List.set_cons_succ]
          refine wpAnyH_take (i := 13) (v := ?_) rfl (by kernel_rfl) (by kernel_rfl) (by kernel_rfl) (fun _ _ _ h => h) (Or.inl ⟨by rfl, ?_⟩) (by assumption) ?_
          rotate_left
          · intro w hSw
            go_simp
            with_reducible rfl
          try simp only [List.getElem_toArray, List.getElem_cons_succ, List.getElem_cons_zero, Act.put, List.setIfInBounds_toArray, List.set_cons_zero, List.set_cons_succ]
          have RA_86 := Aside0.mk hHeld.1
          have RB_86 := Aside0.mk hHeld.2.1
          have HB_86 := Aside0.mk hHeld.2.2
          refine wpAnyH_done (by kernel_rfl) ?_ _
          clear hHeld
          go_wp2_with fail
          go_loopg [34] 64 (fun kq v34 w' => ∃ (i : Int) (W : World), W = w' ∧ v34 = .int .i64 i ∧ Aside0 (0 ≤ i ∧ i + kq = 64) ∧ Aside0 (RngAt W ga za) ∧ Aside0 (RngAt W gb zb) ∧ Aside0 (Below w.heap.size w W))
          case atStart => exact ⟨0, _, rfl, rfl, ⟨by omega⟩, RA_86, RB_86, HB_86⟩
          case round =>
            clear RA_86 RB_86 HB_86
            obtain ⟨i, W, rfl, rfl, HI, RA, RB, HB⟩ := hrel
            cases gk with
            | succ k1 =>
              have h0 : 0 ≤ i := HI.out.1
              have hi : i < 64 := by have := HI.out.2; omega
              have hdec : decide (i < 64) = true := decide_eq_true hi
              have hwi : wrap64 (i + 1) = i + 1 := by unfold wrap64; omega
              have c1 := RA.out.cell h0 (by rw [HLA.out.1]; exact hi)
              have c2 := RB.out.cell h0 (by rw [HLB.out.1]; exact hi)
              have q1 := arr_rd HLA.out.2 h0 (by rw [HLA.out.1]; exact hi)
              have q2 := arr_rd HLB.out.2 h0 (by rw [HLB.out.1]; exact hi)
              have e1 : IntKind.i64.wrap (rd za i) = rd za i := by simp [IntKind.wrap, IntKind.bits, IntKind.signed]; omega
              have e2 : IntKind.i64.wrap (rd zb i) = rd zb i := by simp [IntKind.wrap, IntKind.bits, IntKind.signed]; omega
              have e3 : IntKind.i64.wrap (rd zb i - rd za i) = rd zb i - rd za i := by simp [IntKind.wrap, IntKind.bits, IntKind.signed]; omega
              go_wp2_with fail
              go_region_held3 (fun w' => w'.cell? ⟨ga, i.toNat, none⟩ = some (.int .i16 (rd za i)) ∧ w'.cell? ⟨gb, i.toNat, none⟩ = some (.int .i16 (rd zb i))) (first | go_keep) (fail)
              have HTB := TN_bit za zb tt i h0 hi
              rw [← HDF.out] at HTB
              have HGR := TN_great za zb
              rw [← HGG.out] at HGR
              have HGE := HGR.2 i h0 hi
              have g1 := arr_rd HLA.out.2 HGR.1.1 (by rw [HLA.out.1]; exact HGR.1.2)
              have g2 := arr_rd HLB.out.2 HGR.1.1 (by rw [HLB.out.1]; exact HGR.1.2)
              unfold D_off mx at HTB HGE
              have w1 : wrap64 (-(rd zb i - rd za i)) = -(rd zb i - rd za i) := by unfold wrap64; omega
              have w2 : wrap64 (-(rd zb G - rd za G)) = -(rd zb G - rd za G) := by unfold wrap64; omega
              have r1 := HGR.1.1
              clear HGR c1 c2 e1 e2 e3
              have HDD := Aside0.mk (⟨q1, q2, g1, g2⟩ : (0 ≤ rd za i ∧ rd za i ≤ 400) ∧ (0 ≤ rd zb i ∧ rd zb i ≤ 400) ∧ (0 ≤ rd za G ∧ rd za G ≤ 400) ∧ (0 ≤ rd zb G ∧ rd zb G ≤ 400))
              clear q1 q2 g1 g2 r1
              by_cases hd : rd zb i - rd za i < 0
              · by_cases hD : rd zb G - rd za G < 0
                · have m1 : rd zb i - rd za i < -(rd zb i - rd za i) := by omega
                  have m2 : rd zb G - rd za G < -(rd zb G - rd za G) := by omega
                  have HT2 : (Go.bits .and .u64 (DF / 2 ^ i.toNat) 1 == 1) = decide (tt < -(rd zb i - rd za i)) := by rw [HTB]; exact decide_eq_decide.mpr (by split <;> omega)
                  have HM2 : (-(rd zb G - rd za G) < -(rd zb i - rd za i)) = False := eq_false (by split at HGE <;> (try split at HGE) <;> omega)
                  clear HTB HGE hd hD HDD
                  go_wp2_with fail
                  go_roundg k1
                  case measure => omega
                  case rel => exact ⟨i + 1, _, rfl, (by first | rfl | exact congrArg (Value.int .i64) hwi), ⟨by have := HI.out; omega⟩, ⟨RA.out.below (below_drew1 (Below.refl _ _))⟩, ⟨RB.out.below (below_drew1 (Below.refl _ _))⟩, ⟨below_drew1 HB.out⟩⟩
                · have m1 : rd zb i - rd za i < -(rd zb i - rd za i) := by omega
                  have m2 : -(rd zb G - rd za G) ≤ rd zb G - rd za G := by omega
                  have HT2 : (Go.bits .and .u64 (DF / 2 ^ i.toNat) 1 == 1) = decide (tt < -(rd zb i - rd za i)) := by rw [HTB]; exact decide_eq_decide.mpr (by split <;> omega)
                  have HM2 : (rd zb G - rd za G < -(rd zb i - rd za i)) = False := eq_false (by split at HGE <;> (try split at HGE) <;> omega)
                  clear HTB HGE hd hD HDD
                  go_wp2_with fail
                  go_roundg k1
                  case measure => omega
                  case rel => exact ⟨i + 1, _, rfl, (by first | rfl | exact congrArg (Value.int .i64) hwi), ⟨by have := HI.out; omega⟩, ⟨RA.out.below (below_drew1 (Below.refl _ _))⟩, ⟨RB.out.below (below_drew1 (Below.refl _ _))⟩, ⟨below_drew1 HB.out⟩⟩
              · by_cases hD : rd zb G - rd za G < 0
                · have m1 : -(rd zb i - rd za i) ≤ rd zb i - rd za i := by omega
                  have m2 : rd zb G - rd za G < -(rd zb G - rd za G) := by omega
                  have HT2 : (Go.bits .and .u64 (DF / 2 ^ i.toNat) 1 == 1) = decide (tt < rd zb i - rd za i) := by rw [HTB]; exact decide_eq_decide.mpr (by split <;> omega)
                  have HM2 : (-(rd zb G - rd za G) < rd zb i - rd za i) = False := eq_false (by split at HGE <;> (try split at HGE) <;> omega)
                  clear HTB HGE hd hD HDD
                  go_wp2_with fail
                  go_roundg k1
                  case measure => omega
                  case rel => exact ⟨i + 1, _, rfl, (by first | rfl | exact congrArg (Value.int .i64) hwi), ⟨by have := HI.out; omega⟩, ⟨RA.out.below (below_drew1 (Below.refl _ _))⟩, ⟨RB.out.below (below_drew1 (Below.refl _ _))⟩, ⟨below_drew1 HB.out⟩⟩
                · have m1 : -(rd zb i - rd za i) ≤ rd zb i - rd za i := by omega
                  have m2 : -(rd zb G - rd za G) ≤ rd zb G - rd za G := by omega
                  have HT2 : (Go.bits .and .u64 (DF / 2 ^ i.toNat) 1 == 1) = decide (tt < rd zb i - rd za i) := by rw [HTB]; exact decide_eq_decide.mpr (by split <;> omega)
                  have HM2 : (rd zb G - rd za G < rd zb i - rd za i) = False := eq_false (by split at HGE <;> (try split at HGE) <;> omega)
                  clear HTB HGE hd hD HDD
                  go_wp2_with fail
                  go_roundg k1
                  case measure => omega
                  case rel => exact ⟨i + 1, _, rfl, (by first | rfl | exact congrArg (Value.int .i64) hwi), ⟨by have := HI.out; omega⟩, ⟨RA.out.below (below_drew1 (Below.refl _ _))⟩, ⟨RB.out.below (below_drew1 (Below.refl _ _))⟩, ⟨below_drew1 HB.out⟩⟩
            | zero =>
              have hdec : decide (i < 64) = false := decide_eq_false (by have := HI.out; omega)
              clear RA RB HI
              obtain ⟨mk, em, ec⟩ := TN_maskOf Bwe.out Bno.out
              have HEM := Aside0.mk em
              have HEC := Aside0.mk ec
              have v1 : wrap64 (8 - we) = 8 - we := by have := Bwe.out; unfold wrap64; omega
              have v2 : wrap64 (8 - no) = 8 - no := by have := Bno.out; unfold wrap64; omega
              have v3 : wrap64 ((8 - we) * (8 - no)) = (8 - we) * (8 - no) := by have := TN_prod Bwe.out Bno.out; unfold wrap64; omega
              clear em ec
              go_wp2_with fail
              refine (spec_P6Pick.calls _ _ l0 8 we _ (Kd.C_below HR0.out HB.out) HC0.out Ewe.out).mono ?_
              rintro e w121 ⟨rfl, hb⟩
              have HB_121 := Aside0.mk (below_step HB.out hb)
              clear hb HB
              go_wp2_with fail
              refine (spec_P6Pick.calls _ _ l1 8 no _ (Kd.C_below HR1.out HB_121.out) HC1.out Eno.out).mono ?_
              rintro e w122 ⟨rfl, hb⟩
              have HB_122 := Aside0.mk (below_step HB_121.out hb)
              clear hb HB_121
              go_wp2_with fail
              refine (impl_MaskOf.calls 200 we no 7 7 mk 0 _ HEM.out).mono ?_
              rintro e w123 ⟨rfl, hb⟩
              have HB_123 := Aside0.mk (below_step HB_122.out hb.below)
              clear hb HB_122
              go_wp2_with fail
              refine (spec_CellsIn.calls 200 mk _ _ HEC.out).mono ?_
              rintro e w124 ⟨rfl, hb⟩
              have HB_124 := Aside0.mk (below_step HB_123.out hb.below)
              clear hb HB_123
              go_wp2_with fail
              go_ret
              exact ⟨rfl, HB_124.out⟩
set_option maxHeartbeats 8000000 in
set_option maxRecDepth 100000 in
theorem laws_FnTurnedNegatives.arr (w : World) (A0 : Option Addr) (c0 : Nat) (l0 : List Int) (hr0 : Kd.C (Kd.int .u8) w A0 l0.length l0) (hc0 : l0.length ≤ c0) (hs0 : ∀ x ∈ l0, 0 ≤ x ∧ x ≤ 255) (yy0 : l0.length * 1 ≤ 140737488351232) (A1 : Option Addr) (c1 : Nat) (l1 : List Int) (hr1 : Kd.C (Kd.int .u8) w A1 l1.length l1) (hc1 : l1.length ≤ c1) (hs1 : ∀ x ∈ l1, 0 ≤ x ∧ x ≤ 255) (yy1 : l1.length * 1 ≤ 140737488351232) :
    Calls Try.prog 8 #[.slice A0 l0.length c0, .slice A1 l1.length c1] w fun e w' => e = .returned (.bool true) ∧ Below w.heap.size w w' := by
  by_cases h0 : l0.length ≤ 4096
  · by_cases h1 : l1.length ≤ 4096
    · exact laws_FnTurnedNegatives.walk A0 c0 l0 A1 c1 l1 w hr0 hc0 hs0 hr1 hc1 hs1 h0 h1
    · have HF0 := Aside0.mk (show laws_f6big.f l0 = some false by unfold laws_f6big.f; rw [decide_eq_false (by omega)])
      have HF1 := Aside0.mk (show laws_f6big.f l1 = some true by unfold laws_f6big.f; rw [decide_eq_true (by omega)])
      have HR0 := Aside0.mk hr0
      have HR1 := Aside0.mk hr1
      have HC0 := Aside0.mk hc0
      have HC1 := Aside0.mk hc1
      clear hr0 hr1 hc0 hc1 h0 h1 yy0 yy1 hs0 hs1
      go_enter Try.func8, Try.ntmps8
      go_wp2_with fail
      refine (laws_f6big.calls _ _ l0 false _ HR0.out HC0.out HF0.out).mono ?_
      rintro e w1 ⟨rfl, hb⟩
      have HB := Aside0.mk hb.below
      clear hb
      go_wp2_with fail
      refine (laws_f6big.calls _ _ l1 true _ (Kd.C_below HR1.out HB.out) HC1.out HF1.out).mono ?_
      rintro e w2 ⟨rfl, hb⟩
      have HB2 := Aside0.mk (below_step HB.out hb.below)
      clear hb HB
      go_wp2_with fail
      go_ret
      exact ⟨rfl, HB2.out⟩
  · have HF0 := Aside0.mk (show laws_f6big.f l0 = some true by unfold laws_f6big.f; rw [decide_eq_true (by omega)])
    have HR0 := Aside0.mk hr0
    have HC0 := Aside0.mk hc0
    clear hr0 hr1 hc0 hc1 h0 yy0 yy1 hs0 hs1
    go_enter Try.func8, Try.ntmps8
    go_wp2_with fail
    refine (laws_f6big.calls _ _ l0 true _ HR0.out HC0.out HF0.out).mono ?_
    rintro e w1 ⟨rfl, hb⟩
    have HB := Aside0.mk hb.below
    clear hb
    go_wp2_with fail
    go_ret
    exact ⟨rfl, HB.out⟩
end Go.Proofs.Yticnajjbmdfidaa.Q
