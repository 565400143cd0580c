-- Negatives (arrays of 64 densities).
import Derived.Test.YticnajjbmdfidaaArrDense
namespace Go.Proofs.Yticnajjbmdfidaa.Q
open Go.RowKit Go.Proofs.YticnajjbmdfidaaW.PrintWords Go.Proofs.YticnajjbmdfidaaW.PrintLast Go.Proofs.YticnajjbmdfidaaW.PrintMore
attribute [local go_sem] max2_int min2_int max_two min_two max_three min_three max_four min_four
set_option linter.unusedVariables false
set_option linter.unusedSimpArgs false
set_option maxHeartbeats 8000000 in
set_option maxRecDepth 100000 in
theorem impl_ValidNegative.arr (xs : List Int) (hl : xs.length = 64) (h16 : ∀ x ∈ xs, -32768 ≤ x ∧ x ≤ 32767) (w : World) :
    Calls Try.prog 67 #[.agg (nums .i16 xs).toArray] w fun e w' => e = .returned (.bool (decide (D_dense xs))) ∧ Below w.heap.size w w' := by
  have HL := Aside0.mk hl
  have H16 := Aside0.mk h16
  have HN := Aside0.mk (ArrAt.new w 42 .i16 xs)
  have HB0 := Aside0.mk ((Below.refl w.heap.size w).alloc (Nat.le_refl _) (.cells (nums .i16 xs).toArray 42))
  clear hl h16
  go_enter Try.func67, Try.ntmps67
  go_wp2_with (first | (refine arr_load rfl 42 _ rfl (w.heap.size) rfl 42 .i16 xs HN.out _ Try.underlying42 rfl 64 (by kernel_rfl) HL.out ?_))
  refine (impl_areDensities.arr xs HL.out H16.out _).mono ?_
  rintro e w1 ⟨rfl, hb⟩
  have HB1 := Aside0.mk (below_step HB0.out hb)
  clear hb HB0 HN
  go_wp2_with fail
  go_ret
  exact ⟨rfl, HB1.out⟩
set_option maxHeartbeats 8000000 in
set_option maxRecDepth 100000 in
theorem laws_toNegative.arr (xs : List Int) (hl : xs.length = 64) (w : World) :
    Calls Try.prog 24 #[.agg (nums .i16 xs).toArray] w fun e w' => e = .returned (.agg (nums .i16 xs).toArray) ∧ Below w.heap.size w w' := by
  have HL := Aside0.mk hl
  clear hl
  go_enter Try.func24, Try.ntmps24
  go_wp2_with fail
  go_loopg [4] 64 (fun kq v4 w' => ∃ (i : Int) (ys : List Int) (W : World), W = w' ∧ v4 = .int .i64 i ∧ Aside0 (0 ≤ i ∧ i + kq = 64) ∧ Aside0 (ys.length = 64 ∧ ys.take i.toNat = xs.take i.toNat) ∧
      Aside0 (ArrAt W w.heap.size 36 .i16 xs) ∧ Aside0 (ArrAt W (w.heap.size + 2) 42 .i16 ys) ∧ Aside0 (∃ zs, zs.length = 64 ∧ ArrAt W (w.heap.size + 1) 42 .i16 zs) ∧ Aside0 (Below w.heap.size w W))
  case atStart => exact ⟨0, zer 64, _, rfl, rfl, ⟨by omega⟩, ⟨by simp [zer]⟩, ⟨xalloc3_0 w _ _ _⟩, ⟨xalloc3_2 w _ _ _⟩, ⟨zer 64, zer_len _, xalloc3_1 w _ _ _⟩, ⟨xalloc3_below w _ _ _⟩⟩
  case round =>
    obtain ⟨i, ys, W, rfl, rfl, HI, HY, HA, HO, HZ, HB⟩ := hrel
    cases gk with
    | zero =>
      have hdec : decide (i < 64) = false := decide_eq_false (by have := HI.out; omega)
      have HL2 := Aside0.mk HY.out.1
      obtain rfl : ys = xs := by
        have := HY.out.2
        rw [List.take_of_length_le (by have := HI.out; have := HY.out.1; omega), List.take_of_length_le (by have := HI.out; have := HL.out; omega)] at this
        exact this
      obtain ⟨zs, hz, hZ⟩ := HZ.out
      have HZ1 := Aside0.mk hz
      have HZ2 := Aside0.mk hZ
      clear hz hZ HZ
      go_wp2_with (first | (refine arr_load rfl 42 _ rfl (w.heap.size + 1 + 1) rfl 42 .i16 ys HO.out _ Try.underlying42 rfl 64 (by kernel_rfl) HL2.out ?_) | (refine arr_store rfl 42 _ _ rfl (w.heap.size + 1) .i16 ys rfl rfl 42 zs HZ2.out 64 (by kernel_rfl) HZ1.out HL2.out ?_))
      refine bodyPost_ret (results_cell_row rfl _ _ (w.heap.size + 1) 42 (nums .i16 ys).toArray (0, 0) _ rfl HZ2.out.row Try.underlying42 rfl (by rw [show (Array.size (nums .i16 ys).toArray) = 64 by simp [nums, HL2.out]]; kernel_rfl)) rfl ?_
      exact ⟨rfl, below_row HB.out (by omega) _⟩
    | succ k1 =>
      have h0 := HI.out.1
      have hi : i < 64 := by have := HI.out.2; omega
      have c1 : W.cell? ⟨w.heap.size, i.toNat, none⟩ = some (.int .i16 (rd xs i)) := HA.out.cell h0 (by rw [HL.out]; omega)
      have c2 : W.cell? ⟨w.heap.size + 2, i.toNat, none⟩ = some (.int .i16 (rd ys i)) := HO.out.cell h0 (by rw [HY.out.1]; omega)
      have f2 := HO.out.frozen i.toNat
      go_wp2_with fail
      go_roundg k1
      case measure => omega
      case rel =>
        refine ⟨i + 1, ys.set i.toNat (rd xs i), _, rfl, rfl, ⟨by have := HI.out; omega⟩, ⟨by simpa using HY.out.1, ?_⟩, ⟨HA.out.other (by omega) _ _⟩, ⟨HO.out.set i _⟩, ?_, ⟨below_set HB.out (by omega)⟩⟩
        · exact arr_take_set h0 (by rw [HY.out.1]; omega) (by rw [HL.out]; omega) HY.out.2
        · obtain ⟨zs, hz, hZ⟩ := HZ.out
          exact ⟨zs, hz, hZ.other (by omega) _ _⟩
set_option maxHeartbeats 8000000 in
set_option maxRecDepth 100000 in
theorem spec_l03Negative.arr (g : Nat) (xs : List Int) (hl : xs.length = 64) (h16 : ∀ x ∈ xs, -32768 ≤ x ∧ x ≤ 32767) (w : World) (hA : ArrAt w g 42 .i16 xs) :
    Calls Try.prog 63 #[.pointer (some ⟨g, 0, none⟩)] w fun e w' => e = .returned (.bool (decide (D_dense xs))) ∧ Below w.heap.size w w' := by
  have HL := Aside0.mk hl
  have H16 := Aside0.mk h16
  have HA0 := Aside0.mk hA
  have HZ := Aside0.mk (ArrAt.new w 36 .i16 (zer 64))
  have HB0 := Aside0.mk ((Below.refl w.heap.size w).alloc (Nat.le_refl _) (.cells (nums .i16 (zer 64)).toArray 36))
  clear hl h16 hA
  go_enter Try.func63, Try.ntmps63
  go_wp2_with (first | (refine arr_load rfl 42 _ rfl g rfl 42 .i16 xs HA0.out _ Try.underlying42 rfl 64 (by kernel_rfl) HL.out ?_) | (refine arr_store rfl 36 _ _ rfl w.heap.size .i16 xs rfl rfl 36 (zer 64) HZ.out 64 (by kernel_rfl) (zer_len 64) HL.out ?_))
  refine (spec_l03Dense.arr w.heap.size xs HL.out H16.out _ HZ.out.row).mono ?_
  rintro e w1 ⟨rfl, hb⟩
  have HB1 := Aside0.mk (below_step (below_row HB0.out (Nat.le_refl _) _) hb)
  clear hb HB0 HZ HA0
  go_wp2_with fail
  go_ret
  exact ⟨rfl, HB1.out⟩
set_option maxHeartbeats 8000000 in
set_option maxRecDepth 100000 in
theorem impl_moved.gen (cg : Nat) (caps : Array Value) (f g : Int → Int → Int) (he : ∀ (args : Array Value) (W : World), (callFunc cg args).run Try.prog W = .ok (.enter cg args) W)
    (w : World) (hq : ∀ (x y : Int) (W : World), Below w.heap.size w W → 0 ≤ x → x < 8 → 0 ≤ y → y < 8 → Calls Try.prog cg (#[.int .i64 x, .int .i64 y] ++ caps) W fun e W' => e = .returned (.tuple #[.int .i64 (f x y), .int .i64 (g x y)]) ∧ Below W.heap.size W W')
    (hr : ∀ x y : Int, 0 ≤ x → x < 8 → 0 ≤ y → y < 8 → 0 ≤ f x y ∧ f x y < 8 ∧ 0 ≤ g x y ∧ g x y < 8)
    (xs : List Int) (hl : xs.length = 64) (h16 : ∀ x ∈ xs, -32768 ≤ x ∧ x ≤ 32767) :
    Calls Try.prog 78 #[.agg (nums .i16 xs).toArray, .func (.func cg) #[] caps] w fun e w' => e = .returned (.tuple #[.agg (nums .i16 (D_moved (fun k => f (k % 8) (k / 8) + 8 * g (k % 8) (k / 8)) xs).1).toArray, .int .i64 (D_moved (fun k => f (k % 8) (k / 8) + 8 * g (k % 8) (k / 8)) xs).2]) ∧ Below w.heap.size w w' := by
  obtain ⟨P, hP⟩ : ∃ P : Int → Int, P = fun k => f (k % 8) (k / 8) + 8 * g (k % 8) (k / 8) := ⟨_, rfl⟩
  rw [← hP]
  have HP := Aside0.mk hP
  have HL := Aside0.mk hl
  have H16 := Aside0.mk h16
  have HE := Aside0.mk he
  have HQ := Aside0.mk hq
  have HR := Aside0.mk hr
  have HA0 := Aside0.mk (arr_new2a w 42 .i16 xs (.cells (nums .i16 (zer 64)).toArray 42))
  have HZ0 := Aside0.mk (arr_new2b w (.cells (nums .i16 xs).toArray 42) 42 .i16 (zer 64))
  have HB0 := Aside0.mk (arr_below2 w (.cells (nums .i16 xs).toArray 42) (.cells (nums .i16 (zer 64)).toArray 42))
  clear hl h16 he hq hr hP
  go_enter Try.func78, Try.ntmps78
  go_wp2_with (first | (refine arr_load rfl 42 _ rfl w.heap.size rfl 42 .i16 xs HA0.out _ Try.underlying42 rfl 64 (by kernel_rfl) HL.out ?_))
  refine (impl_ValidNegative.arr xs HL.out H16.out _).mono ?_
  rintro e w1 ⟨rfl, hb⟩
  have HB1 := Aside0.mk (below_step HB0.out hb)
  have HA1 := Aside0.mk (HA0.out.below hb)
  have HZ1 := Aside0.mk (HZ0.out.below hb)
  have HS := Aside0.mk (HZ1.out.lt)
  clear hb HB0 HA0 HZ0
  by_cases hd : D_dense xs
  · have hdd : decide (D_dense xs) = true := decide_eq_true hd
    have HD := Aside0.mk (show D_moved P xs = (perm 64 P xs, 0) from if_pos hd)
    clear hd
    have HO1 := Aside0.mk (ArrAt.new w1 42 .i16 (zer 64))
    go_wp2_with (first | (refine arr_store rfl 42 _ _ rfl w1.heap.size .i16 (zer 64) rfl rfl 42 (zer 64) HO1.out 64 (by kernel_rfl) (zer_len 64) (zer_len 64) ?_))
    go_loopg [15] 64 (fun kq v15 w' => ∃ (i : Int) (ys : List Int) (W : World), W = w' ∧ v15 = .int .i64 i ∧ Aside0 (0 ≤ i ∧ i + kq = 64) ∧ Aside0 (ys.length = 64 ∧ ys.take i.toNat = (perm 64 P xs).take i.toNat) ∧
      Aside0 (ArrAt W w.heap.size 42 .i16 xs) ∧ Aside0 (ArrAt W w1.heap.size 42 .i16 ys) ∧ Aside0 (ArrAt W (w.heap.size + 1) 42 .i16 (zer 64)) ∧ Aside0 (Below w.heap.size w W))
    case atStart => exact ⟨0, zer 64, _, rfl, rfl, ⟨by omega⟩, ⟨by simp [zer]⟩, ⟨(HA1.out.alloc _).rowOther (by have := HA1.out.lt; omega) _⟩, ⟨HO1.out.row⟩, ⟨(HZ1.out.alloc _).rowOther (by have := HZ1.out.lt; omega) _⟩, ⟨below_row (below_alloc HB1.out _) (by have := HS.out; omega) _⟩⟩
    case round =>
      clear HA1 HZ1 HO1 HB1
      obtain ⟨i, ys, W, rfl, rfl, HI, HY, HA, HO, HZ, HB⟩ := hrel
      cases gk with
      | zero =>
        have hdec : decide (i < 64) = false := decide_eq_false (by have := HI.out; omega)
        have HL2 := Aside0.mk HY.out.1
        have hys : ys = perm 64 P xs := by
          have := HY.out.2
          rw [List.take_of_length_le (by have := HI.out; have := HY.out.1; omega), List.take_of_length_le (by have := HI.out; have := perm_len 64 P xs; omega)] at this
          exact this
        have HYS := Aside0.mk hys
        clear hys
        go_wp2_with (first | (refine arr_load rfl 42 _ rfl w1.heap.size rfl 42 .i16 ys HO.out _ Try.underlying42 rfl 64 (by kernel_rfl) HL2.out ?_) | (refine arr_store rfl 42 _ _ rfl (w.heap.size + 1) .i16 ys rfl rfl 42 (zer 64) HZ.out 64 (by kernel_rfl) (zer_len 64) HL2.out ?_))
        refine bodyPost_ret (results_ct rfl _ _ (w.heap.size + 1) 42 (nums .i16 ys).toArray (0, 0) _ rfl HZ.out.row Try.underlying42 rfl (by rw [show (Array.size (nums .i16 ys).toArray) = 64 by simp [nums, HL2.out]]; kernel_rfl)) rfl ?_
        exact ⟨by rw [HD.out, ← HYS.out]; rfl, below_row HB.out (by omega) _⟩
      | succ k1 =>
        have h0 := HI.out.1
        have hi : i < 64 := by have := HI.out.2; omega
        have he := HE.out
        go_wp2_with fail
        clear he
        refine (HQ.out (i % 8) (i / 8) W HB.out (by omega) (by omega) (by omega) (by omega)).mono ?_
        rintro e w2 ⟨rfl, hb⟩
        have HB2 := Aside0.mk (below_step HB.out hb)
        have HA2 := Aside0.mk (HA.out.below hb)
        have HO2 := Aside0.mk (HO.out.below hb)
        have HZ2 := Aside0.mk (HZ.out.below hb)
        clear hb HB HA HO HZ
        obtain ⟨r0, r1, r2, r3⟩ := HR.out (i % 8) (i / 8) (by omega) (by omega) (by omega) (by omega)
        have hq : f (i % 8) (i / 8) + 8 * g (i % 8) (i / 8) = P i := by rw [HP.out]
        obtain ⟨F, hF⟩ : ∃ F, F = f (i % 8) (i / 8) := ⟨_, rfl⟩
        obtain ⟨G, hG⟩ : ∃ G, G = g (i % 8) (i / 8) := ⟨_, rfl⟩
        rw [← hF] at r0 r1 hq ⊢
        rw [← hG] at r2 r3 hq ⊢
        clear hF hG
        have q0 : 0 ≤ F + 8 * G := by omega
        have q1 : F + 8 * G < 64 := by omega
        have hr : rd xs (F + 8 * G) = rd (perm 64 P xs) i := by rw [rd_perm h0 hi, hq]
        have HRR := Aside0.mk hr
        clear hr hq
        have c1 : w2.cell? ⟨w.heap.size, (F + 8 * G).toNat, none⟩ = some (.int .i16 (rd xs (F + 8 * G))) := HA2.out.cell q0 (by rw [HL.out]; omega)
        have c2 : w2.cell? ⟨w1.heap.size, i.toNat, none⟩ = some (.int .i16 (rd ys i)) := HO2.out.cell h0 (by rw [HY.out.1]; omega)
        have f2 := HO2.out.frozen i.toNat
        go_wp2_with fail
        go_roundg k1
        case measure => omega
        case rel =>
          rw [HRR.out]
          exact ⟨i + 1, ys.set i.toNat (rd (perm 64 P xs) i), _, rfl, rfl, ⟨by have := HI.out; omega⟩, ⟨by simpa using HY.out.1, arr_take_set h0 (by rw [HY.out.1]; omega) (by rw [perm_len]; omega) HY.out.2⟩,
            ⟨HA2.out.other (by have := HS.out; omega) _ _⟩, ⟨HO2.out.set i _⟩, ⟨HZ2.out.other (by have := HS.out; omega) _ _⟩, ⟨below_set HB2.out (by have := HS.out; omega)⟩⟩
  · have hdd : decide (D_dense xs) = false := decide_eq_false hd
    have HD := Aside0.mk (show D_moved P xs = (zer 64, 1) from if_neg hd)
    clear hd
    go_wp2_with (first | (refine arr_store rfl 42 _ _ rfl (w.heap.size + 1) .i16 (zer 64) rfl rfl 42 (zer 64) HZ1.out 64 (by kernel_rfl) (zer_len 64) (zer_len 64) ?_))
    refine bodyPost_ret (results_ct rfl _ _ (w.heap.size + 1) 42 (nums .i16 (zer 64)).toArray (0, 0) _ rfl HZ1.out.row Try.underlying42 rfl (by rw [show (Array.size (nums .i16 (zer 64)).toArray) = 64 by simp [nums, zer]]; kernel_rfl)) rfl ?_
    exact ⟨by rw [HD.out]; rfl, below_row HB1.out (by omega) _⟩
end Go.Proofs.Yticnajjbmdfidaa.Q
