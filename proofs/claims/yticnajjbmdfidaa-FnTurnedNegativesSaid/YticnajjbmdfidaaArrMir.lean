-- Negatives mirrored.
import Derived.Test.YticnajjbmdfidaaArrNeg
namespace Go.Proofs.Yticnajjbmdfidaa.Q
open Go.RowKit Go.Proofs.YticnajjbmdfidaaW.PrintWords Go.Proofs.YticnajjbmdfidaaW.PrintLast Go.Proofs.YticnajjbmdfidaaW.PrintMore
attribute [local go_sem] max2_int min2_int max_two min_two max_three min_three max_four min_four
set_option linter.unusedVariables false
set_option linter.unusedSimpArgs false
def p_mir (k : Int) : Int := k / 8 * 8 + 7 - k % 8
set_option maxHeartbeats 8000000 in
set_option maxRecDepth 100000 in
theorem spec_MirrorNegative.arr (xs : List Int) (hl : xs.length = 64) (h16 : ∀ x ∈ xs, -32768 ≤ x ∧ x ≤ 32767) (w : World) :
    Calls Try.prog 36 #[.agg (nums .i16 xs).toArray] w fun e w' => e = .returned (.tuple #[.agg (nums .i16 (D_moved p_mir xs).1).toArray, .int .i64 (D_moved p_mir xs).2]) ∧ Below w.heap.size w w' := by
  have HL := Aside0.mk hl
  have H16 := Aside0.mk h16
  have HA0 := Aside0.mk (arr_new2a w 42 .i16 xs (.cells (nums .i16 (zer 64)).toArray 42))
  have HZ0 := Aside0.mk (arr_new2b w (.cells (nums .i16 xs).toArray 42) 42 .i16 (zer 64))
  have HB0 := Aside0.mk (arr_below2 w (.cells (nums .i16 xs).toArray 42) (.cells (nums .i16 (zer 64)).toArray 42))
  clear hl h16
  go_enter Try.func36, Try.ntmps36
  go_wp2_with fail
  refine (spec_l03Negative.arr w.heap.size xs HL.out H16.out _ HA0.out).mono ?_
  rintro e w1 ⟨rfl, hb⟩
  have HB1 := Aside0.mk (below_step HB0.out hb)
  have HA1 := Aside0.mk (HA0.out.below hb)
  have HZ1 := Aside0.mk (HZ0.out.below hb)
  have HS := Aside0.mk (HZ1.out.lt)
  clear hb HB0 HA0 HZ0
  by_cases hd : D_dense xs
  · have hdd : decide (D_dense xs) = true := decide_eq_true hd
    have HD := Aside0.mk (show D_moved p_mir xs = (perm 64 p_mir xs, 0) from if_pos hd)
    clear hd
    have HO1 := Aside0.mk (ArrAt.new w1 42 .i16 (zer 64))
    go_wp2_with (first | (refine arr_store rfl 42 _ _ rfl w1.heap.size .i16 (zer 64) rfl rfl 42 (zer 64) HO1.out 64 (by kernel_rfl) (zer_len 64) (zer_len 64) ?_))
    go_loopg [5] 64 (fun kq v5 w' => ∃ (i : Int) (ys : List Int) (W : World), W = w' ∧ v5 = .int .i64 i ∧ Aside0 (0 ≤ i ∧ i + kq = 64) ∧ Aside0 (ys.length = 64 ∧ ys.take i.toNat = (perm 64 p_mir xs).take i.toNat) ∧
      Aside0 (ArrAt W w.heap.size 42 .i16 xs) ∧ Aside0 (ArrAt W w1.heap.size 42 .i16 ys) ∧ Aside0 (ArrAt W (w.heap.size + 1) 42 .i16 (zer 64)) ∧ Aside0 (Below w.heap.size w W))
    case atStart => exact ⟨0, zer 64, _, rfl, rfl, ⟨by omega⟩, ⟨by simp [zer]⟩, ⟨(HA1.out.alloc _).rowOther (by have := HA1.out.lt; omega) _⟩, ⟨HO1.out.row⟩, ⟨(HZ1.out.alloc _).rowOther (by have := HZ1.out.lt; omega) _⟩, ⟨below_row (below_alloc HB1.out _) (by have := HS.out; omega) _⟩⟩
    case round =>
      clear HA1 HZ1 HO1 HB1
      obtain ⟨i, ys, W, rfl, rfl, HI, HY, HA, HO, HZ, HB⟩ := hrel
      cases gk with
      | zero =>
        have hdec : decide (i < 64) = false := decide_eq_false (by have := HI.out; omega)
        have HL2 := Aside0.mk HY.out.1
        have hys : ys = perm 64 p_mir xs := by
          have := HY.out.2
          rw [List.take_of_length_le (by have := HI.out; have := HY.out.1; omega), List.take_of_length_le (by have := HI.out; have := perm_len 64 p_mir xs; omega)] at this
          exact this
        have HYS := Aside0.mk hys
        clear hys
        go_wp2_with (first | (refine arr_load rfl 42 _ rfl w1.heap.size rfl 42 .i16 ys HO.out _ Try.underlying42 rfl 64 (by kernel_rfl) HL2.out ?_) | (refine arr_store rfl 42 _ _ rfl (w.heap.size + 1) .i16 ys rfl rfl 42 (zer 64) HZ.out 64 (by kernel_rfl) (zer_len 64) HL2.out ?_))
        refine bodyPost_ret (results_ct rfl _ _ (w.heap.size + 1) 42 (nums .i16 ys).toArray (0, 0) _ rfl HZ.out.row Try.underlying42 rfl (by rw [show (Array.size (nums .i16 ys).toArray) = 64 by simp [nums, HL2.out]]; kernel_rfl)) rfl ?_
        exact ⟨by rw [HD.out, ← HYS.out]; rfl, below_row HB.out (by omega) _⟩
      | succ k1 =>
        have h0 := HI.out.1
        have hi : i < 64 := by have := HI.out.2; omega
        have q0 : 0 ≤ i / 8 * 8 + 7 - i % 8 := by omega
        have q1 : i / 8 * 8 + 7 - i % 8 < 64 := by omega
        have c1 : W.cell? ⟨w.heap.size, (i / 8 * 8 + 7 - i % 8).toNat, none⟩ = some (.int .i16 (rd xs (i / 8 * 8 + 7 - i % 8))) := HA.out.cell q0 (by rw [HL.out]; omega)
        have c2 : W.cell? ⟨w1.heap.size, i.toNat, none⟩ = some (.int .i16 (rd ys i)) := HO.out.cell h0 (by rw [HY.out.1]; omega)
        have f2 := HO.out.frozen i.toNat
        have hr : rd xs (i / 8 * 8 + 7 - i % 8) = rd (perm 64 p_mir xs) i := (rd_perm (p := p_mir) h0 hi).symm
        have HR := Aside0.mk hr
        clear hr
        go_wp2_with fail
        go_roundg k1
        case measure => omega
        case rel =>
          rw [HR.out]
          exact ⟨i + 1, ys.set i.toNat (rd (perm 64 p_mir xs) i), _, rfl, rfl, ⟨by have := HI.out; omega⟩, ⟨by simpa using HY.out.1, arr_take_set h0 (by rw [HY.out.1]; omega) (by rw [perm_len]; omega) HY.out.2⟩,
            ⟨HA.out.other (by have := HS.out; omega) _ _⟩, ⟨HO.out.set i _⟩, ⟨HZ.out.other (by have := HS.out; omega) _ _⟩, ⟨below_set HB.out (by have := HS.out; omega)⟩⟩
  · have hdd : decide (D_dense xs) = false := decide_eq_false hd
    have HD := Aside0.mk (show D_moved p_mir xs = (zer 64, 1) from if_neg hd)
    clear hd
    go_wp2_with (first | (refine arr_store rfl 42 _ _ rfl (w.heap.size + 1) .i16 (zer 64) rfl rfl 42 (zer 64) HZ1.out 64 (by kernel_rfl) (zer_len 64) (zer_len 64) ?_))
    refine bodyPost_ret (results_ct rfl _ _ (w.heap.size + 1) 42 (nums .i16 (zer 64)).toArray (0, 0) _ rfl HZ1.out.row Try.underlying42 rfl (by rw [show (Array.size (nums .i16 (zer 64)).toArray) = 64 by simp [nums, zer]]; kernel_rfl)) rfl ?_
    exact ⟨by rw [HD.out]; rfl, below_row HB1.out (by omega) _⟩
set_option maxHeartbeats 8000000 in
set_option maxRecDepth 100000 in
theorem impl_MirrorNegative.clo (x y : Int) (W : World) (h0 : 0 ≤ x) (h1 : x < 8) (h2 : 0 ≤ y) (h3 : y < 8) : Calls Try.prog 79 (#[.int .i64 x, .int .i64 y] ++ #[]) W fun e W' => e = .returned (.tuple #[.int .i64 (7 - x), .int .i64 y]) ∧ Below W.heap.size W W' := by
  go_enter Try.func79, Try.ntmps79
  go_wp2_with fail
  go_ret2
  exact ⟨rfl, Below.refl _ _⟩
set_option maxHeartbeats 8000000 in
set_option maxRecDepth 100000 in
theorem impl_MirrorNegative.arr (xs : List Int) (hl : xs.length = 64) (h16 : ∀ x ∈ xs, -32768 ≤ x ∧ x ≤ 32767) (w : World) :
    Calls Try.prog 35 #[.agg (nums .i16 xs).toArray] w fun e w' => e = .returned (.tuple #[.agg (nums .i16 (D_moved p_mir xs).1).toArray, .int .i64 (D_moved p_mir xs).2]) ∧ Below w.heap.size w w' := by
  have HL := Aside0.mk hl
  have H16 := Aside0.mk h16
  have HA0 := Aside0.mk (arr_new2a w 42 .i16 xs (.cells (nums .i16 (zer 64)).toArray 42))
  have HZ0 := Aside0.mk (arr_new2b w (.cells (nums .i16 xs).toArray 42) 42 .i16 (zer 64))
  have HB0 := Aside0.mk (arr_below2 w (.cells (nums .i16 xs).toArray 42) (.cells (nums .i16 (zer 64)).toArray 42))
  clear hl h16
  go_enter Try.func35, Try.ntmps35
  go_wp2_with (first | (refine arr_load rfl 42 _ rfl w.heap.size rfl 42 .i16 xs HA0.out _ Try.underlying42 rfl 64 (by kernel_rfl) HL.out ?_))
  refine (impl_moved.gen 79 #[] (fun x _ => 7 - x) (fun _ y => y) (fun args W => enters_ Try.func79 (by kernel_rfl) rfl args W) _ (fun x y W _ a b c d => impl_MirrorNegative.clo x y W a b c d) (fun x y _ _ _ _ => by omega) xs HL.out H16.out).mono ?_
  rintro e w1 ⟨rfl, hb⟩
  have hp : (fun k : Int => (7 - k % 8) + 8 * (k / 8)) = p_mir := by funext k; unfold p_mir; omega
  have HP := Aside0.mk hp
  clear hp
  rw [HP.out]
  have HB1 := Aside0.mk (below_step HB0.out hb)
  have HZ1 := Aside0.mk (HZ0.out.below hb)
  clear hb HB0 HA0 HZ0
  obtain ⟨Z, hZ⟩ : ∃ Z, Z = D_moved p_mir xs := ⟨_, rfl⟩
  have HM := Aside0.mk (show Z.1.length = 64 by rw [hZ]; exact D_moved_len _ _)
  have HZZ := Aside0.mk hZ
  rw [← hZ]
  clear hZ
  go_wp2_with (first | (refine arr_store rfl 42 _ _ rfl (w.heap.size + 1) .i16 Z.1 rfl rfl 42 (zer 64) HZ1.out 64 (by kernel_rfl) (zer_len 64) HM.out ?_))
  refine bodyPost_ret (results_ct rfl _ _ (w.heap.size + 1) 42 (nums .i16 Z.1).toArray (0, 0) _ rfl HZ1.out.row Try.underlying42 rfl (by rw [show (Array.size (nums .i16 Z.1).toArray) = 64 by simp [nums, HM.out]]; kernel_rfl)) rfl ?_
  exact ⟨by rw [← HZZ.out]; rfl, below_row HB1.out (by omega) _⟩
end Go.Proofs.Yticnajjbmdfidaa.Q
