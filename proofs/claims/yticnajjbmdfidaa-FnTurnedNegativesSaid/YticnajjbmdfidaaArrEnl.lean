-- Negatives enlarged.
import Derived.Test.YticnajjbmdfidaaQx3
import Derived.Test.YticnajjbmdfidaaArrNeg
namespace Go.Proofs.Yticnajjbmdfidaa.Q
open Go.RowKit Go.Proofs.YticnajjbmdfidaaW.PrintWords Go.Proofs.YticnajjbmdfidaaW.PrintLast Go.Proofs.YticnajjbmdfidaaW.PrintMore
attribute [local go_sem] max2_int min2_int max_two min_two max_three min_three max_four min_four
set_option linter.unusedVariables false
set_option linter.unusedSimpArgs false
def p_enl (x y k : Int) : Int := x + k % 8 / 2 + 8 * (y + k / 8 / 2)
def D_enl (x y : Int) (xs : List Int) : List Int × Int := if D_dense xs then (if (0 ≤ x ∧ x ≤ 4) ∧ 0 ≤ y ∧ y ≤ 4 then (perm 64 (p_enl x y) xs, 0) else (zer 64, 2)) else (zer 64, 1)
theorem D_enl_len (x y : Int) (xs : List Int) : (D_enl x y xs).1.length = 64 := by
  unfold D_enl
  split
  · split <;> simp [perm, zer]
  · simp [zer]
set_option maxHeartbeats 8000000 in
set_option maxRecDepth 100000 in
theorem impl_EnlargePart.clo (bx by_ : Nat) (x y a b : Int) (W : World) (hx : W.heap[bx]? = some (.cells #[.int .i64 x] 2 (0, 0))) (hy : W.heap[by_]? = some (.cells #[.int .i64 y] 2 (0, 0))) (rx : 0 ≤ x ∧ x ≤ 4) (ry : 0 ≤ y ∧ y ≤ 4) (h0 : 0 ≤ a) (h1 : a < 8) (h2 : 0 ≤ b) (h3 : b < 8) :
    Calls Try.prog 83 (#[.int .i64 a, .int .i64 b] ++ #[.pointer (some ⟨bx, 0, none⟩), .pointer (some ⟨by_, 0, none⟩)]) W fun e W' => e = .returned (.tuple #[.int .i64 (x + a / 2), .int .i64 (y + b / 2)]) ∧ Below W.heap.size W W' := by
  have c0 : W.cell? ⟨bx, 0, none⟩ = some (.int .i64 x) := (blk_cell hx 0).trans rfl
  have c1 : W.cell? ⟨by_, 0, none⟩ = some (.int .i64 y) := (blk_cell hy 0).trans rfl
  clear hx hy
  go_enter Try.func83, Try.ntmps83
  go_wp2_with fail
  go_region_held3 (fun w' => w'.cell? ⟨bx, 0, none⟩ = some (.int .i64 x) ∧ w'.cell? ⟨by_, 0, none⟩ = some (.int .i64 y)) (first | go_keep | fail) (fail)
  go_wp2_with fail
  go_ret2
  refine ⟨?_, below_drew1 (Below.refl _ _)⟩
  show Ending.returned (.tuple #[.int .i64 (IntKind.i64.wrap (x + IntKind.i64.wrap (a.tdiv 2))), .int .i64 (IntKind.i64.wrap (y + IntKind.i64.wrap (b.tdiv 2)))]) = _
  have w1 : ∀ z : Int, -9223372036854775808 ≤ z ∧ z ≤ 9223372036854775807 → IntKind.i64.wrap z = z := fun z hz => by simp [IntKind.wrap, IntKind.bits, IntKind.signed]; omega
  rw [Int.tdiv_eq_ediv_of_nonneg h0, Int.tdiv_eq_ediv_of_nonneg h2, w1 (a / 2) (by omega), w1 (b / 2) (by omega), w1 (x + a / 2) (by omega), w1 (y + b / 2) (by omega)]
set_option maxHeartbeats 8000000 in
set_option maxRecDepth 100000 in
theorem impl_EnlargePart.arr (xs : List Int) (hl : xs.length = 64) (h16 : ∀ x ∈ xs, -32768 ≤ x ∧ x ≤ 32767) (x y : Int) (w : World) :
    Calls Try.prog 40 #[.agg (nums .i16 xs).toArray, .int .i64 x, .int .i64 y] w fun e w' => e = .returned (.tuple #[.agg (nums .i16 (D_enl x y xs).1).toArray, .int .i64 (D_enl x y xs).2]) ∧ Below w.heap.size w w' := by
  have HL := Aside0.mk hl
  have H16 := Aside0.mk h16
  have HA0 := Aside0.mk ((((ArrAt.new w 42 .i16 xs).alloc (.cells #[.int .i64 x] 2)).alloc (.cells #[.int .i64 y] 2)).alloc (.cells (nums .i16 (zer 64)).toArray 42))
  have HX0 := Aside0.mk (blk_alloc1 (blk_alloc1 (blk_newAt (W := w.alloc (.cells (nums .i16 xs).toArray 42)) (g := w.heap.size + 1) (by simp) #[.int .i64 x] 2) (.cells #[.int .i64 y] 2)) (.cells (nums .i16 (zer 64)).toArray 42))
  have HY0 := Aside0.mk (blk_alloc1 (blk_newAt (W := (w.alloc (.cells (nums .i16 xs).toArray 42)).alloc (.cells #[.int .i64 x] 2)) (g := w.heap.size + 1 + 1) (by simp) #[.int .i64 y] 2) (.cells (nums .i16 (zer 64)).toArray 42))
  have HZ0 := Aside0.mk (ArrAt.newAt (W := ((w.alloc (.cells (nums .i16 xs).toArray 42)).alloc (.cells #[.int .i64 x] 2)).alloc (.cells #[.int .i64 y] 2)) (g := w.heap.size + 1 + 1 + 1) (by simp) 42 .i16 (zer 64))
  have HB0 := Aside0.mk (below_alloc (below_alloc (arr_below2 w (.cells (nums .i16 xs).toArray 42) (.cells #[.int .i64 x] 2)) (.cells #[.int .i64 y] 2)) (.cells (nums .i16 (zer 64)).toArray 42))
  clear hl h16
  go_enter Try.func40, Try.ntmps40
  go_wp2_with (first | (refine arr_load rfl 42 _ rfl w.heap.size rfl 42 .i16 xs HA0.out _ Try.underlying42 rfl 64 (by kernel_rfl) HL.out ?_))
  refine (impl_ValidNegative.arr xs HL.out H16.out _).mono ?_
  rintro e w1 ⟨rfl, hb⟩
  have HB1 := Aside0.mk (below_step HB0.out hb)
  have HA1 := Aside0.mk (HA0.out.below hb)
  have HX1 := Aside0.mk (blk_below HX0.out hb)
  have HY1 := Aside0.mk (blk_below HY0.out hb)
  have HZ1 := Aside0.mk (HZ0.out.below hb)
  clear hb HB0 HA0 HX0 HY0 HZ0
  by_cases hd : D_dense xs
  · have hdd : decide (D_dense xs) = true := decide_eq_true hd
    have HDD := Aside0.mk hd
    clear hd
    have cx : w1.cell? ⟨w.heap.size + 1, 0, none⟩ = some (.int .i64 x) := (blk_cell HX1.out 0).trans rfl
    go_wp2_with fail
    refine (impl_within.calls x 0 4 (decide (0 ≤ x ∧ x ≤ 4)) _ (by unfold impl_within.f; rw [arr_within])).mono ?_
    rintro e w2 ⟨rfl, hb⟩
    have HB2 := Aside0.mk (below_step HB1.out hb.below)
    have HA2 := Aside0.mk (HA1.out.below hb.below)
    have HX2 := Aside0.mk (blk_below HX1.out hb.below)
    have HY2 := Aside0.mk (blk_below HY1.out hb.below)
    have HZ2 := Aside0.mk (HZ1.out.below hb.below)
    clear hb HB1 HA1 HX1 HY1 HZ1 cx
    by_cases hx : 0 ≤ x ∧ x ≤ 4
    · have hxx : decide (0 ≤ x ∧ x ≤ 4) = true := decide_eq_true hx
      have HX := Aside0.mk hx
      clear hx
      have cy : w2.cell? ⟨w.heap.size + 1 + 1, 0, none⟩ = some (.int .i64 y) := (blk_cell HY2.out 0).trans rfl
      go_wp2_with fail
      refine (impl_within.calls y 0 4 (decide (0 ≤ y ∧ y ≤ 4)) _ (by unfold impl_within.f; rw [arr_within])).mono ?_
      rintro e w3 ⟨rfl, hb⟩
      have HB3 := Aside0.mk (below_step HB2.out hb.below)
      have HA3 := Aside0.mk (HA2.out.below hb.below)
      have HX3 := Aside0.mk (blk_below HX2.out hb.below)
      have HY3 := Aside0.mk (blk_below HY2.out hb.below)
      have HZ3 := Aside0.mk (HZ2.out.below hb.below)
      clear hb HB2 HA2 HX2 HY2 HZ2 cy
      by_cases hy : 0 ≤ y ∧ y ≤ 4
      · have hyy : decide (0 ≤ y ∧ y ≤ 4) = true := decide_eq_true hy
        have HXY := Aside0.mk (show (0 ≤ x ∧ x ≤ 4) ∧ 0 ≤ y ∧ y ≤ 4 from ⟨HX.out, hy⟩)
        have HD := Aside0.mk (show D_enl x y xs = D_moved (p_enl x y) xs by unfold D_enl D_moved; rw [if_pos HDD.out, if_pos HXY.out, if_pos HDD.out])
        clear hy
        go_wp2_with (first | (refine arr_load rfl 42 _ rfl w.heap.size rfl 42 .i16 xs HA3.out _ Try.underlying42 rfl 64 (by kernel_rfl) HL.out ?_))
        refine (impl_moved.gen 83 #[.pointer (some ⟨w.heap.size + 1, 0, none⟩), .pointer (some ⟨w.heap.size + 1 + 1, 0, none⟩)] (fun a _ => x + a / 2) (fun _ b => y + b / 2) (fun args W => enters_ Try.func83 (by kernel_rfl) rfl args W) w3
          (fun a b W hW h0 h1 h2 h3 => impl_EnlargePart.clo (w.heap.size + 1) (w.heap.size + 1 + 1) x y a b W (blk_below HX3.out hW) (blk_below HY3.out hW) HXY.out.1 HXY.out.2 h0 h1 h2 h3) (fun a b _ _ _ _ => by have := HXY.out; omega) xs HL.out H16.out).mono ?_
        rintro e w4 ⟨rfl, hb⟩
        have hp : (fun k : Int => (x + k % 8 / 2) + 8 * (y + k / 8 / 2)) = p_enl x y := by funext k; unfold p_enl; rfl
        have HP := Aside0.mk hp
        clear hp
        rw [HP.out]
        have HB4 := Aside0.mk (below_step HB3.out hb)
        have HZ4 := Aside0.mk (HZ3.out.below hb)
        clear hb HB3 HA3 HX3 HY3 HZ3
        obtain ⟨Z, hZ⟩ : ∃ Z, Z = D_moved (p_enl x y) xs := ⟨_, rfl⟩
        have HM := Aside0.mk (show Z.1.length = 64 by rw [hZ]; exact D_moved_len _ _)
        have HZZ := Aside0.mk hZ
        rw [← hZ]
        clear hZ
        go_wp2_with (first | (refine arr_store rfl 42 _ _ rfl (w.heap.size + 1 + 1 + 1) .i16 Z.1 rfl rfl 42 (zer 64) HZ4.out 64 (by kernel_rfl) (zer_len 64) HM.out ?_))
        refine bodyPost_ret (results_ct rfl _ _ (w.heap.size + 1 + 1 + 1) 42 (nums .i16 Z.1).toArray (0, 0) _ rfl HZ4.out.row Try.underlying42 rfl (by rw [show (Array.size (nums .i16 Z.1).toArray) = 64 by simp [nums, HM.out]]; kernel_rfl)) rfl ?_
        exact ⟨by rw [HD.out, ← HZZ.out]; rfl, below_row HB4.out (by omega) _⟩
      · have hyy : decide (0 ≤ y ∧ y ≤ 4) = false := decide_eq_false hy
        have HD := Aside0.mk (show D_enl x y xs = (zer 64, 2) by unfold D_enl; rw [if_pos HDD.out, if_neg (fun h => hy h.2)])
        clear hy
        go_wp2_with (first | (refine arr_store rfl 42 _ _ rfl (w.heap.size + 1 + 1 + 1) .i16 (zer 64) rfl rfl 42 (zer 64) HZ3.out 64 (by kernel_rfl) (zer_len 64) (zer_len 64) ?_))
        refine bodyPost_ret (results_ct rfl _ _ (w.heap.size + 1 + 1 + 1) 42 (nums .i16 (zer 64)).toArray (0, 0) _ rfl HZ3.out.row Try.underlying42 rfl (by rw [show (Array.size (nums .i16 (zer 64)).toArray) = 64 by simp [nums, zer]]; kernel_rfl)) rfl ?_
        exact ⟨by rw [HD.out]; rfl, below_row HB3.out (by omega) _⟩
    · have hxx : decide (0 ≤ x ∧ x ≤ 4) = false := decide_eq_false hx
      have HD := Aside0.mk (show D_enl x y xs = (zer 64, 2) by unfold D_enl; rw [if_pos HDD.out, if_neg (fun h => hx h.1)])
      clear hx
      go_wp2_with (first | (refine arr_store rfl 42 _ _ rfl (w.heap.size + 1 + 1 + 1) .i16 (zer 64) rfl rfl 42 (zer 64) HZ2.out 64 (by kernel_rfl) (zer_len 64) (zer_len 64) ?_))
      refine bodyPost_ret (results_ct rfl _ _ (w.heap.size + 1 + 1 + 1) 42 (nums .i16 (zer 64)).toArray (0, 0) _ rfl HZ2.out.row Try.underlying42 rfl (by rw [show (Array.size (nums .i16 (zer 64)).toArray) = 64 by simp [nums, zer]]; kernel_rfl)) rfl ?_
      exact ⟨by rw [HD.out]; rfl, below_row HB2.out (by omega) _⟩
  · have hdd : decide (D_dense xs) = false := decide_eq_false hd
    have HD := Aside0.mk (show D_enl x y xs = (zer 64, 1) by unfold D_enl; rw [if_neg hd])
    clear hd
    go_wp2_with (first | (refine arr_store rfl 42 _ _ rfl (w.heap.size + 1 + 1 + 1) .i16 (zer 64) rfl rfl 42 (zer 64) HZ1.out 64 (by kernel_rfl) (zer_len 64) (zer_len 64) ?_))
    refine bodyPost_ret (results_ct rfl _ _ (w.heap.size + 1 + 1 + 1) 42 (nums .i16 (zer 64)).toArray (0, 0) _ rfl HZ1.out.row Try.underlying42 rfl (by rw [show (Array.size (nums .i16 (zer 64)).toArray) = 64 by simp [nums, zer]]; kernel_rfl)) rfl ?_
    exact ⟨by rw [HD.out]; rfl, below_row HB1.out (by omega) _⟩
end Go.Proofs.Yticnajjbmdfidaa.Q
