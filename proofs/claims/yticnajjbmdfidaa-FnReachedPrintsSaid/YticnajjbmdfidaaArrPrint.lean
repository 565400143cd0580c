-- Prints (arrays of 64 densities).
import Derived.Test.YticnajjbmdfidaaQx5
import Derived.Test.YticnajjbmdfidaaQx7
import Derived.Test.YticnajjbmdfidaaArrDense
namespace Go.Proofs.Yticnajjbmdfidaa.Q
open Go.RowKit Go.Proofs.YticnajjbmdfidaaW.PrintWords Go.Proofs.YticnajjbmdfidaaW.PrintLast Go.Proofs.YticnajjbmdfidaaW.PrintMore
attribute [local go_sem] max2_int min2_int max_two min_two max_three min_three max_four min_four
set_option linter.unusedVariables false
set_option linter.unusedSimpArgs false
set_option maxHeartbeats 8000000 in
set_option maxRecDepth 100000 in
theorem impl_ValidPrint.arr (xs : List Int) (hl : xs.length = 64) (h16 : ∀ x ∈ xs, -32768 ≤ x ∧ x ≤ 32767) (w : World) :
    Calls Try.prog 73 #[.agg (nums .i16 xs).toArray] w fun e w' => e = .returned (.bool (decide (D_dense xs))) ∧ Below w.heap.size w w' := by
  have HL := Aside0.mk hl
  have H16 := Aside0.mk h16
  have HN := Aside0.mk (ArrAt.new w 39 .i16 xs)
  have HB0 := Aside0.mk ((Below.refl w.heap.size w).alloc (Nat.le_refl _) (.cells (nums .i16 xs).toArray 39))
  clear hl h16
  go_enter Try.func73, Try.ntmps73
  go_wp2_with (first | (refine arr_load rfl 39 _ rfl (w.heap.size) rfl 39 .i16 xs HN.out _ Try.underlying39 rfl 64 (by kernel_rfl) HL.out ?_))
  refine (impl_areDensities.arr xs HL.out H16.out _).mono ?_
  rintro e w1 ⟨rfl, hb⟩
  have HB1 := Aside0.mk (below_step HB0.out hb)
  clear hb HB0 HN
  go_wp2_with fail
  go_ret
  exact ⟨rfl, HB1.out⟩
set_option maxHeartbeats 8000000 in
set_option maxRecDepth 100000 in
theorem laws_toPrint.arr (xs : List Int) (hl : xs.length = 64) (w : World) :
    Calls Try.prog 30 #[.agg (nums .i16 xs).toArray] w fun e w' => e = .returned (.agg (nums .i16 xs).toArray) ∧ Below w.heap.size w w' := by
  have HL := Aside0.mk hl
  clear hl
  go_enter Try.func30, Try.ntmps30
  go_wp2_with fail
  go_loopg [4] 64 (fun kq v4 w' => ∃ (i : Int) (ys : List Int) (W : World), W = w' ∧ v4 = .int .i64 i ∧ Aside0 (0 ≤ i ∧ i + kq = 64) ∧ Aside0 (ys.length = 64 ∧ ys.take i.toNat = xs.take i.toNat) ∧
      Aside0 (ArrAt W w.heap.size 36 .i16 xs) ∧ Aside0 (ArrAt W (w.heap.size + 2) 39 .i16 ys) ∧ Aside0 (∃ zs, zs.length = 64 ∧ ArrAt W (w.heap.size + 1) 39 .i16 zs) ∧ Aside0 (Below w.heap.size w W))
  case atStart => exact ⟨0, zer 64, _, rfl, rfl, ⟨by omega⟩, ⟨by simp [zer]⟩, ⟨xalloc3_0 w _ _ _⟩, ⟨xalloc3_2 w _ _ _⟩, ⟨zer 64, zer_len _, xalloc3_1 w _ _ _⟩, ⟨xalloc3_below w _ _ _⟩⟩
  case round =>
    obtain ⟨i, ys, W, rfl, rfl, HI, HY, HA, HO, HZ, HB⟩ := hrel
    cases gk with
    | zero =>
      have hdec : decide (i < 64) = false := decide_eq_false (by have := HI.out; omega)
      have HL2 := Aside0.mk HY.out.1
      obtain rfl : ys = xs := by
        have := HY.out.2
        rw [List.take_of_length_le (by have := HI.out; have := HY.out.1; omega), List.take_of_length_le (by have := HI.out; have := HL.out; omega)] at this
        exact this
      obtain ⟨zs, hz, hZ⟩ := HZ.out
      have HZ1 := Aside0.mk hz
      have HZ2 := Aside0.mk hZ
      clear hz hZ HZ
      go_wp2_with (first | (refine arr_load rfl 39 _ rfl (w.heap.size + 1 + 1) rfl 39 .i16 ys HO.out _ Try.underlying39 rfl 64 (by kernel_rfl) HL2.out ?_) | (refine arr_store rfl 39 _ _ rfl (w.heap.size + 1) .i16 ys rfl rfl 39 zs HZ2.out 64 (by kernel_rfl) HZ1.out HL2.out ?_))
      refine bodyPost_ret (results_cell_row rfl _ _ (w.heap.size + 1) 39 (nums .i16 ys).toArray (0, 0) _ rfl HZ2.out.row Try.underlying39 rfl (by rw [show (Array.size (nums .i16 ys).toArray) = 64 by simp [nums, HL2.out]]; kernel_rfl)) rfl ?_
      exact ⟨rfl, below_row HB.out (by omega) _⟩
    | succ k1 =>
      have h0 := HI.out.1
      have hi : i < 64 := by have := HI.out.2; omega
      have c1 : W.cell? ⟨w.heap.size, i.toNat, none⟩ = some (.int .i16 (rd xs i)) := HA.out.cell h0 (by rw [HL.out]; omega)
      have c2 : W.cell? ⟨w.heap.size + 2, i.toNat, none⟩ = some (.int .i16 (rd ys i)) := HO.out.cell h0 (by rw [HY.out.1]; omega)
      have f2 := HO.out.frozen i.toNat
      go_wp2_with fail
      go_roundg k1
      case measure => omega
      case rel =>
        refine ⟨i + 1, ys.set i.toNat (rd xs i), _, rfl, rfl, ⟨by have := HI.out; omega⟩, ⟨by simpa using HY.out.1, ?_⟩, ⟨HA.out.other (by omega) _ _⟩, ⟨HO.out.set i _⟩, ?_, ⟨below_set HB.out (by omega)⟩⟩
        · exact arr_take_set h0 (by rw [HY.out.1]; omega) (by rw [HL.out]; omega) HY.out.2
        · obtain ⟨zs, hz, hZ⟩ := HZ.out
          exact ⟨zs, hz, hZ.other (by omega) _ _⟩
set_option maxHeartbeats 8000000 in
set_option maxRecDepth 100000 in
theorem spec_l03Print.arr (g : Nat) (xs : List Int) (hl : xs.length = 64) (h16 : ∀ x ∈ xs, -32768 ≤ x ∧ x ≤ 32767) (w : World) (hA : ArrAt w g 39 .i16 xs) :
    Calls Try.prog 71 #[.pointer (some ⟨g, 0, none⟩)] w fun e w' => e = .returned (.bool (decide (D_dense xs))) ∧ Below w.heap.size w w' := by
  have HL := Aside0.mk hl
  have H16 := Aside0.mk h16
  have HA0 := Aside0.mk hA
  have HZ := Aside0.mk (ArrAt.new w 36 .i16 (zer 64))
  have HB0 := Aside0.mk ((Below.refl w.heap.size w).alloc (Nat.le_refl _) (.cells (nums .i16 (zer 64)).toArray 36))
  clear hl h16 hA
  go_enter Try.func71, Try.ntmps71
  go_wp2_with (first | (refine arr_load rfl 39 _ rfl g rfl 39 .i16 xs HA0.out _ Try.underlying39 rfl 64 (by kernel_rfl) HL.out ?_) | (refine arr_store rfl 36 _ _ rfl w.heap.size .i16 xs rfl rfl 36 (zer 64) HZ.out 64 (by kernel_rfl) (zer_len 64) HL.out ?_))
  refine (spec_l03Dense.arr w.heap.size xs HL.out H16.out _ HZ.out.row).mono ?_
  rintro e w1 ⟨rfl, hb⟩
  have HB1 := Aside0.mk (below_step (below_row HB0.out (Nat.le_refl _) _) hb)
  clear hb HB0 HZ HA0
  go_wp2_with fail
  go_ret
  exact ⟨rfl, HB1.out⟩
end Go.Proofs.Yticnajjbmdfidaa.Q
