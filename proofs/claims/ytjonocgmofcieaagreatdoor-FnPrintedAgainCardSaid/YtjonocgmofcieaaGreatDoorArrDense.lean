-- Arrays of 64 densities.
import Derived.Test.YtjonocgmofcieaaGreatDoorQx5
import Derived.Test.YtjonocgmofcieaaGreatDoorQx8
import Derived.Test.YtjonocgmofcieaaGreatDoorArrKit
namespace Go.Proofs.YtjonocgmofcieaaGreatDoor.Q
open Go.RowKit Go.Proofs.YtjonocgmofcieaaGreatDoorW.PrintWords Go.Proofs.YtjonocgmofcieaaGreatDoorW.PrintLast Go.Proofs.YtjonocgmofcieaaGreatDoorW.PrintMore
attribute [local go_sem] max2_int min2_int max_two min_two max_three min_three max_four min_four
set_option linter.unusedVariables false
set_option linter.unusedSimpArgs false
theorem szI16 (w : World) : (sizeOf 24).run Tryz.prog w = .ok 1 w := by kernel_rfl
theorem agI16 (w : World) : (isAgg 24).run Tryz.prog w = .ok false w := by kernel_rfl
def D_dense (xs : List Int) : Prop := ∀ x ∈ xs, 0 ≤ x ∧ x ≤ 400
instance (xs : List Int) : Decidable (D_dense xs) := by unfold D_dense; infer_instance
def D_moved (p : Int → Int) (xs : List Int) : List Int × Int := if D_dense xs then (perm 64 p xs, 0) else (zer 64, 1)
theorem D_moved_len (p : Int → Int) (xs : List Int) : (D_moved p xs).1.length = 64 := by unfold D_moved; split <;> simp [perm, zer]
theorem D_dense_iff {xs : List Int} : (decide (D_dense xs)) = true ↔ ∀ i : Int, 0 ≤ i → i < xs.length → 0 ≤ rd xs i ∧ rd xs i ≤ 400 := arr_all (P := fun x => 0 ≤ x ∧ x ≤ 400)
set_option maxHeartbeats 8000000 in
set_option maxRecDepth 100000 in
theorem impl_areDensities.arr (xs : List Int) (hl : xs.length = 64) (h16 : ∀ x ∈ xs, -32768 ≤ x ∧ x ≤ 32767) (w : World) :
    Calls Tryz.prog 55 #[.agg (nums .i16 xs).toArray] w fun e w' => e = .returned (.bool (decide (D_dense xs))) ∧ Below w.heap.size w w' := by
  have HL := Aside0.mk hl
  have H16 := Aside0.mk h16
  have HN := Aside0.mk (ArrAt.new w 25 .i16 xs)
  have HB0 := Aside0.mk ((Below.refl w.heap.size w).alloc (Nat.le_refl _) (.cells (nums .i16 xs).toArray 25))
  clear hl h16
  go_enter Tryz.func55, Tryz.ntmps55
  go_wp2_with (first | (refine arr_load rfl 25 _ rfl (w.heap.size) rfl 25 .i16 xs HN.out _ Tryz.underlying25 rfl 64 (by kernel_rfl) HL.out ?_))
  go_loopg [6] 64 (fun kq v6 w' => ∃ (i : Int) (W : World), W = w' ∧ v6 = .int .i64 i ∧ Aside0 (0 ≤ i ∧ i + kq = 64) ∧ Aside0 (∀ j : Int, 0 ≤ j → j < i → 0 ≤ rd xs j ∧ rd xs j ≤ 400) ∧ Aside0 (Below w.heap.size w W))
  case atStart => exact ⟨0, _, rfl, rfl, ⟨by omega⟩, ⟨fun j _ _ => by omega⟩, HB0⟩
  case round =>
    clear HN HB0
    obtain ⟨i, W, rfl, rfl, HI, HD, HB⟩ := hrel
    cases gk with
    | zero =>
      have hdec : decide (i < 64) = false := decide_eq_false (by have := HI.out; omega)
      have hall : (decide (D_dense xs)) = true := by
        rw [D_dense_iff]; intro j h0 h1; exact HD.out j h0 (by have := HI.out; have := HL.out; omega)
      go_wp2_with fail
      go_ret
      exact ⟨by rw [hall]; rfl, HB.out⟩
    | succ k1 =>
      have h0 := HI.out.1
      have hi : i < 64 := by have := HI.out.2; omega
      have hx := arr_index (k := .i16) (xs := xs) Tryz.underlying25 szI16 agI16 h0 (by rw [HL.out]; omega) HL.out
      have hc := arr_rd H16.out h0 (by rw [HL.out]; omega)
      have hcv : IntKind.i64.wrap (rd xs i) = rd xs i := by simp [IntKind.wrap, IntKind.bits, IntKind.signed]; omega
      go_wp2_with fail
      refine (impl_isDensity.calls (rd xs i) (decide (0 ≤ rd xs i ∧ rd xs i ≤ 400)) W (by unfold impl_isDensity.f impl_within.f; rw [arr_within]; rfl)).mono ?_
      rintro e w1 ⟨rfl, hb⟩
      have HB1 := Aside0.mk (below_step HB.out hb.below)
      clear hb HB hx hcv hc
      by_cases hd : 0 ≤ rd xs i ∧ rd xs i ≤ 400
      · have hdd : decide (0 ≤ rd xs i ∧ rd xs i ≤ 400) = true := decide_eq_true hd
        have HD1 := Aside0.mk (fun (j : Int) (h1 : 0 ≤ j) (h2 : j < i + 1) => if h : j < i then HD.out j h1 h else (show j = i by omega) ▸ hd)
        clear hd
        go_wp2_with fail
        go_roundg k1
        case measure => omega
        case rel => exact ⟨i + 1, _, rfl, rfl, ⟨by have := HI.out; omega⟩, HD1, HB1⟩
      · have hdd : decide (0 ≤ rd xs i ∧ rd xs i ≤ 400) = false := decide_eq_false hd
        have hall : (decide (D_dense xs)) = false := by
          rw [decide_eq_false_iff_not]; intro h; exact hd (arr_rd (P := fun x => 0 ≤ x ∧ x ≤ 400) h h0 (by have := HL.out; omega))
        clear hd
        go_wp2_with fail
        go_ret
        exact ⟨by rw [hall]; rfl, HB1.out⟩
set_option maxHeartbeats 8000000 in
set_option maxRecDepth 100000 in
theorem spec_l03Dense.arr (g : Nat) (xs : List Int) (hl : xs.length = 64) (h16 : ∀ x ∈ xs, -32768 ≤ x ∧ x ≤ 32767) (w : World) (hA : ArrAt w g 25 .i16 xs) :
    Calls Tryz.prog 73 #[.pointer (some ⟨g, 0, none⟩)] w fun e w' => e = .returned (.bool (decide (D_dense xs))) ∧ Below w.heap.size w w' := by
  have HL := Aside0.mk hl
  have H16 := Aside0.mk h16
  have HA0 := Aside0.mk hA
  clear hl h16 hA
  go_enter Tryz.func73, Tryz.ntmps73
  go_wp2_with fail
  go_loopg [3] 64 (fun kq v3 w' => ∃ (i : Int) (W : World), W = w' ∧ v3 = .int .i64 i ∧ Aside0 (0 ≤ i ∧ i + kq = 64) ∧ Aside0 (∀ j : Int, 0 ≤ j → j < i → 0 ≤ rd xs j ∧ rd xs j ≤ 400) ∧ Aside0 (ArrAt W g 25 .i16 xs) ∧ Aside0 (Below w.heap.size w W))
  case atStart => exact ⟨0, _, rfl, rfl, ⟨by omega⟩, ⟨fun j _ _ => by omega⟩, HA0, ⟨Below.refl _ _⟩⟩
  case round =>
    clear HA0
    obtain ⟨i, W, rfl, rfl, HI, HD, HA, HB⟩ := hrel
    cases gk with
    | zero =>
      have hdec : decide (i < 64) = false := decide_eq_false (by have := HI.out; omega)
      have hall : (decide (D_dense xs)) = true := by
        rw [D_dense_iff]; intro j h0 h1; exact HD.out j h0 (by have := HI.out; have := HL.out; omega)
      go_wp2_with fail
      go_ret
      exact ⟨by rw [hall]; rfl, HB.out⟩
    | succ k1 =>
      have h0 := HI.out.1
      have hi : i < 64 := by have := HI.out.2; omega
      have c1 : W.cell? ⟨g, i.toNat, none⟩ = some (.int .i16 (rd xs i)) := HA.out.cell h0 (by rw [HL.out]; omega)
      have hc := arr_rd H16.out h0 (by rw [HL.out]; omega)
      have hcv : IntKind.i64.wrap (rd xs i) = rd xs i := by simp [IntKind.wrap, IntKind.bits, IntKind.signed]; omega
      go_wp2_with fail
      refine (spec_l02Density.calls (rd xs i) (decide (0 ≤ rd xs i ∧ rd xs i ≤ 400)) W (by unfold spec_l02Density.f spec_l00In.f; rw [arr_within]; rfl)).mono ?_
      rintro e w1 ⟨rfl, hb⟩
      have HB1 := Aside0.mk (below_step HB.out hb.below)
      have HA1 := Aside0.mk (HA.out.below hb.below)
      clear hb HB HA c1 hcv hc
      by_cases hd : 0 ≤ rd xs i ∧ rd xs i ≤ 400
      · have hdd : decide (0 ≤ rd xs i ∧ rd xs i ≤ 400) = true := decide_eq_true hd
        have HD1 := Aside0.mk (fun (j : Int) (h1 : 0 ≤ j) (h2 : j < i + 1) => if h : j < i then HD.out j h1 h else (show j = i by omega) ▸ hd)
        clear hd
        go_wp2_with fail
        go_roundg k1
        case measure => omega
        case rel => exact ⟨i + 1, _, rfl, rfl, ⟨by have := HI.out; omega⟩, HD1, HA1, HB1⟩
      · have hdd : decide (0 ≤ rd xs i ∧ rd xs i ≤ 400) = false := decide_eq_false hd
        have hall : (decide (D_dense xs)) = false := by
          rw [decide_eq_false_iff_not]; intro h; exact hd (arr_rd (P := fun x => 0 ≤ x ∧ x ≤ 400) h h0 (by have := HL.out; omega))
        clear hd
        go_wp2_with fail
        go_ret
        exact ⟨by rw [hall]; rfl, HB1.out⟩
end Go.Proofs.YtjonocgmofcieaaGreatDoor.Q
namespace Go.Proofs.YtjonocgmofcieaaGreatDoor.Q
open Go.RowKit Go.Proofs.YtjonocgmofcieaaGreatDoorW.PrintWords Go.Proofs.YtjonocgmofcieaaGreatDoorW.PrintLast Go.Proofs.YtjonocgmofcieaaGreatDoorW.PrintMore
attribute [local go_sem] max2_int min2_int max_two min_two max_three min_three max_four min_four
set_option linter.unusedVariables false
set_option linter.unusedSimpArgs false
set_option maxHeartbeats 8000000 in
set_option maxRecDepth 100000 in
theorem impl_ValidPrint.arr (xs : List Int) (hl : xs.length = 64) (h16 : ∀ x ∈ xs, -32768 ≤ x ∧ x ≤ 32767) (w : World) :
    Calls Tryz.prog 22 #[.agg (nums .i16 xs).toArray] w fun e w' => e = .returned (.bool (decide (D_dense xs))) ∧ Below w.heap.size w w' := by
  have HL := Aside0.mk hl
  have H16 := Aside0.mk h16
  have HN := Aside0.mk (ArrAt.new w 33 .i16 xs)
  have HB0 := Aside0.mk ((Below.refl w.heap.size w).alloc (Nat.le_refl _) (.cells (nums .i16 xs).toArray 33))
  clear hl h16
  go_enter Tryz.func22, Tryz.ntmps22
  go_wp2_with (first | (refine arr_load rfl 33 _ rfl (w.heap.size) rfl 33 .i16 xs HN.out _ Tryz.underlying33 rfl 64 (by kernel_rfl) HL.out ?_))
  refine (impl_areDensities.arr xs HL.out H16.out _).mono ?_
  rintro e w1 ⟨rfl, hb⟩
  have HB1 := Aside0.mk (below_step HB0.out hb)
  clear hb HB0 HN
  go_wp2_with fail
  go_ret
  exact ⟨rfl, HB1.out⟩
end Go.Proofs.YtjonocgmofcieaaGreatDoor.Q
namespace Go.Proofs.YtjonocgmofcieaaGreatDoor.Q
open Go.RowKit Go.Proofs.YtjonocgmofcieaaGreatDoorW.PrintWords Go.Proofs.YtjonocgmofcieaaGreatDoorW.PrintLast Go.Proofs.YtjonocgmofcieaaGreatDoorW.PrintMore
attribute [local go_sem] max2_int min2_int max_two min_two max_three min_three max_four min_four
set_option linter.unusedVariables false
set_option linter.unusedSimpArgs false
set_option maxHeartbeats 8000000 in
set_option maxRecDepth 100000 in
theorem impl_ValidNegative.arr (xs : List Int) (hl : xs.length = 64) (h16 : ∀ x ∈ xs, -32768 ≤ x ∧ x ≤ 32767) (w : World) :
    Calls Tryz.prog 21 #[.agg (nums .i16 xs).toArray] w fun e w' => e = .returned (.bool (decide (D_dense xs))) ∧ Below w.heap.size w w' := by
  have HL := Aside0.mk hl
  have H16 := Aside0.mk h16
  have HN := Aside0.mk (ArrAt.new w 26 .i16 xs)
  have HB0 := Aside0.mk ((Below.refl w.heap.size w).alloc (Nat.le_refl _) (.cells (nums .i16 xs).toArray 26))
  clear hl h16
  go_enter Tryz.func21, Tryz.ntmps21
  go_wp2_with (first | (refine arr_load rfl 26 _ rfl (w.heap.size) rfl 26 .i16 xs HN.out _ Tryz.underlying26 rfl 64 (by kernel_rfl) HL.out ?_))
  refine (impl_areDensities.arr xs HL.out H16.out _).mono ?_
  rintro e w1 ⟨rfl, hb⟩
  have HB1 := Aside0.mk (below_step HB0.out hb)
  clear hb HB0 HN
  go_wp2_with fail
  go_ret
  exact ⟨rfl, HB1.out⟩
set_option maxHeartbeats 8000000 in
set_option maxRecDepth 100000 in
theorem spec_l03Negative.arr (g : Nat) (xs : List Int) (hl : xs.length = 64) (h16 : ∀ x ∈ xs, -32768 ≤ x ∧ x ≤ 32767) (w : World) (hA : ArrAt w g 26 .i16 xs) :
    Calls Tryz.prog 37 #[.pointer (some ⟨g, 0, none⟩)] w fun e w' => e = .returned (.bool (decide (D_dense xs))) ∧ Below w.heap.size w w' := by
  have HL := Aside0.mk hl
  have H16 := Aside0.mk h16
  have HA0 := Aside0.mk hA
  have HZ := Aside0.mk (ArrAt.new w 25 .i16 (zer 64))
  have HB0 := Aside0.mk ((Below.refl w.heap.size w).alloc (Nat.le_refl _) (.cells (nums .i16 (zer 64)).toArray 25))
  clear hl h16 hA
  go_enter Tryz.func37, Tryz.ntmps37
  go_wp2_with (first | (refine arr_load rfl 26 _ rfl g rfl 26 .i16 xs HA0.out _ Tryz.underlying26 rfl 64 (by kernel_rfl) HL.out ?_) | (refine arr_store rfl 25 _ _ rfl w.heap.size .i16 xs rfl rfl 25 (zer 64) HZ.out 64 (by kernel_rfl) (zer_len 64) HL.out ?_))
  refine (spec_l03Dense.arr w.heap.size xs HL.out H16.out _ HZ.out.row).mono ?_
  rintro e w1 ⟨rfl, hb⟩
  have HB1 := Aside0.mk (below_step (below_row HB0.out (Nat.le_refl _) _) hb)
  clear hb HB0 HZ HA0
  go_wp2_with fail
  go_ret
  exact ⟨rfl, HB1.out⟩
set_option maxHeartbeats 8000000 in
set_option maxRecDepth 100000 in
theorem impl_moved.gen (cg : Nat) (caps : Array Value) (f g : Int → Int → Int) (he : ∀ (args : Array Value) (W : World), (callFunc cg args).run Tryz.prog W = .ok (.enter cg args) W)
    (w : World) (hq : ∀ (x y : Int) (W : World), Below w.heap.size w W → 0 ≤ x → x < 8 → 0 ≤ y → y < 8 → Calls Tryz.prog cg (#[.int .i64 x, .int .i64 y] ++ caps) W fun e W' => e = .returned (.tuple #[.int .i64 (f x y), .int .i64 (g x y)]) ∧ Below W.heap.size W W')
    (hr : ∀ x y : Int, 0 ≤ x → x < 8 → 0 ≤ y → y < 8 → 0 ≤ f x y ∧ f x y < 8 ∧ 0 ≤ g x y ∧ g x y < 8)
    (xs : List Int) (hl : xs.length = 64) (h16 : ∀ x ∈ xs, -32768 ≤ x ∧ x ≤ 32767) :
    Calls Tryz.prog 60 #[.agg (nums .i16 xs).toArray, .func (.func cg) #[] caps] w fun e w' => e = .returned (.tuple #[.agg (nums .i16 (D_moved (fun k => f (k % 8) (k / 8) + 8 * g (k % 8) (k / 8)) xs).1).toArray, .int .i64 (D_moved (fun k => f (k % 8) (k / 8) + 8 * g (k % 8) (k / 8)) xs).2]) ∧ Below w.heap.size w w' := by
  obtain ⟨P, hP⟩ : ∃ P : Int → Int, P = fun k => f (k % 8) (k / 8) + 8 * g (k % 8) (k / 8) := ⟨_, rfl⟩
  rw [← hP]
  have HP := Aside0.mk hP
  have HL := Aside0.mk hl
  have H16 := Aside0.mk h16
  have HE := Aside0.mk he
  have HQ := Aside0.mk hq
  have HR := Aside0.mk hr
  have HA0 := Aside0.mk (arr_new2a w 26 .i16 xs (.cells (nums .i16 (zer 64)).toArray 26))
  have HZ0 := Aside0.mk (arr_new2b w (.cells (nums .i16 xs).toArray 26) 26 .i16 (zer 64))
  have HB0 := Aside0.mk (arr_below2 w (.cells (nums .i16 xs).toArray 26) (.cells (nums .i16 (zer 64)).toArray 26))
  clear hl h16 he hq hr hP
  go_enter Tryz.func60, Tryz.ntmps60
  go_wp2_with (first | (refine arr_load rfl 26 _ rfl w.heap.size rfl 26 .i16 xs HA0.out _ Tryz.underlying26 rfl 64 (by kernel_rfl) HL.out ?_))
  refine (impl_ValidNegative.arr xs HL.out H16.out _).mono ?_
  rintro e w1 ⟨rfl, hb⟩
  have HB1 := Aside0.mk (below_step HB0.out hb)
  have HA1 := Aside0.mk (HA0.out.below hb)
  have HZ1 := Aside0.mk (HZ0.out.below hb)
  have HS := Aside0.mk (HZ1.out.lt)
  clear hb HB0 HA0 HZ0
  by_cases hd : D_dense xs
  · have hdd : decide (D_dense xs) = true := decide_eq_true hd
    have HD := Aside0.mk (show D_moved P xs = (perm 64 P xs, 0) from if_pos hd)
    clear hd
    have HO1 := Aside0.mk (ArrAt.new w1 26 .i16 (zer 64))
    go_wp2_with (first | (refine arr_store rfl 26 _ _ rfl w1.heap.size .i16 (zer 64) rfl rfl 26 (zer 64) HO1.out 64 (by kernel_rfl) (zer_len 64) (zer_len 64) ?_))
    go_loopg [15] 64 (fun kq v15 w' => ∃ (i : Int) (ys : List Int) (W : World), W = w' ∧ v15 = .int .i64 i ∧ Aside0 (0 ≤ i ∧ i + kq = 64) ∧ Aside0 (ys.length = 64 ∧ ys.take i.toNat = (perm 64 P xs).take i.toNat) ∧
      Aside0 (ArrAt W w.heap.size 26 .i16 xs) ∧ Aside0 (ArrAt W w1.heap.size 26 .i16 ys) ∧ Aside0 (ArrAt W (w.heap.size + 1) 26 .i16 (zer 64)) ∧ Aside0 (Below w.heap.size w W))
    case atStart => exact ⟨0, zer 64, _, rfl, rfl, ⟨by omega⟩, ⟨by simp [zer]⟩, ⟨(HA1.out.alloc _).rowOther (by have := HA1.out.lt; omega) _⟩, ⟨HO1.out.row⟩, ⟨(HZ1.out.alloc _).rowOther (by have := HZ1.out.lt; omega) _⟩, ⟨below_row (below_alloc HB1.out _) (by have := HS.out; omega) _⟩⟩
    case round =>
      clear HA1 HZ1 HO1 HB1
      obtain ⟨i, ys, W, rfl, rfl, HI, HY, HA, HO, HZ, HB⟩ := hrel
      cases gk with
      | zero =>
        have hdec : decide (i < 64) = false := decide_eq_false (by have := HI.out; omega)
        have HL2 := Aside0.mk HY.out.1
        have hys : ys = perm 64 P xs := by
          have := HY.out.2
          rw [List.take_of_length_le (by have := HI.out; have := HY.out.1; omega), List.take_of_length_le (by have := HI.out; have := perm_len 64 P xs; omega)] at this
          exact this
        have HYS := Aside0.mk hys
        clear hys
        go_wp2_with (first | (refine arr_load rfl 26 _ rfl w1.heap.size rfl 26 .i16 ys HO.out _ Tryz.underlying26 rfl 64 (by kernel_rfl) HL2.out ?_) | (refine arr_store rfl 26 _ _ rfl (w.heap.size + 1) .i16 ys rfl rfl 26 (zer 64) HZ.out 64 (by kernel_rfl) (zer_len 64) HL2.out ?_))
        refine bodyPost_ret (results_ct rfl _ _ (w.heap.size + 1) 26 (nums .i16 ys).toArray (0, 0) _ rfl HZ.out.row Tryz.underlying26 rfl (by rw [show (Array.size (nums .i16 ys).toArray) = 64 by simp [nums, HL2.out]]; kernel_rfl)) rfl ?_
        exact ⟨by rw [HD.out, ← HYS.out]; rfl, below_row HB.out (by omega) _⟩
      | succ k1 =>
        have h0 := HI.out.1
        have hi : i < 64 := by have := HI.out.2; omega
        have he := HE.out
        go_wp2_with fail
        clear he
        refine (HQ.out (i % 8) (i / 8) W HB.out (by omega) (by omega) (by omega) (by omega)).mono ?_
        rintro e w2 ⟨rfl, hb⟩
        have HB2 := Aside0.mk (below_step HB.out hb)
        have HA2 := Aside0.mk (HA.out.below hb)
        have HO2 := Aside0.mk (HO.out.below hb)
        have HZ2 := Aside0.mk (HZ.out.below hb)
        clear hb HB HA HO HZ
        obtain ⟨r0, r1, r2, r3⟩ := HR.out (i % 8) (i / 8) (by omega) (by omega) (by omega) (by omega)
        have hq : f (i % 8) (i / 8) + 8 * g (i % 8) (i / 8) = P i := by rw [HP.out]
        obtain ⟨F, hF⟩ : ∃ F, F = f (i % 8) (i / 8) := ⟨_, rfl⟩
        obtain ⟨G, hG⟩ : ∃ G, G = g (i % 8) (i / 8) := ⟨_, rfl⟩
        rw [← hF] at r0 r1 hq ⊢
        rw [← hG] at r2 r3 hq ⊢
        clear hF hG
        have q0 : 0 ≤ F + 8 * G := by omega
        have q1 : F + 8 * G < 64 := by omega
        have hr : rd xs (F + 8 * G) = rd (perm 64 P xs) i := by rw [rd_perm h0 hi, hq]
        have HRR := Aside0.mk hr
        clear hr hq
        have c1 : w2.cell? ⟨w.heap.size, (F + 8 * G).toNat, none⟩ = some (.int .i16 (rd xs (F + 8 * G))) := HA2.out.cell q0 (by rw [HL.out]; omega)
        have c2 : w2.cell? ⟨w1.heap.size, i.toNat, none⟩ = some (.int .i16 (rd ys i)) := HO2.out.cell h0 (by rw [HY.out.1]; omega)
        have f2 := HO2.out.frozen i.toNat
        go_wp2_with fail
        go_roundg k1
        case measure => omega
        case rel =>
          rw [HRR.out]
          exact ⟨i + 1, ys.set i.toNat (rd (perm 64 P xs) i), _, rfl, rfl, ⟨by have := HI.out; omega⟩, ⟨by simpa using HY.out.1, arr_take_set h0 (by rw [HY.out.1]; omega) (by rw [perm_len]; omega) HY.out.2⟩,
            ⟨HA2.out.other (by have := HS.out; omega) _ _⟩, ⟨HO2.out.set i _⟩, ⟨HZ2.out.other (by have := HS.out; omega) _ _⟩, ⟨below_set HB2.out (by have := HS.out; omega)⟩⟩
  · have hdd : decide (D_dense xs) = false := decide_eq_false hd
    have HD := Aside0.mk (show D_moved P xs = (zer 64, 1) from if_neg hd)
    clear hd
    go_wp2_with (first | (refine arr_store rfl 26 _ _ rfl (w.heap.size + 1) .i16 (zer 64) rfl rfl 26 (zer 64) HZ1.out 64 (by kernel_rfl) (zer_len 64) (zer_len 64) ?_))
    refine bodyPost_ret (results_ct rfl _ _ (w.heap.size + 1) 26 (nums .i16 (zer 64)).toArray (0, 0) _ rfl HZ1.out.row Tryz.underlying26 rfl (by rw [show (Array.size (nums .i16 (zer 64)).toArray) = 64 by simp [nums, zer]]; kernel_rfl)) rfl ?_
    exact ⟨by rw [HD.out]; rfl, below_row HB1.out (by omega) _⟩
end Go.Proofs.YtjonocgmofcieaaGreatDoor.Q
namespace Go.Proofs.YtjonocgmofcieaaGreatDoor.Q
open Go.RowKit Go.Proofs.YtjonocgmofcieaaGreatDoorW.PrintWords Go.Proofs.YtjonocgmofcieaaGreatDoorW.PrintLast Go.Proofs.YtjonocgmofcieaaGreatDoorW.PrintMore
attribute [local go_sem] max2_int min2_int max_two min_two max_three min_three max_four min_four
set_option linter.unusedVariables false
set_option linter.unusedSimpArgs false
def p_mir (k : Int) : Int := k / 8 * 8 + 7 - k % 8
set_option maxHeartbeats 8000000 in
set_option maxRecDepth 100000 in
theorem impl_MirrorNegative.clo (x y : Int) (W : World) (h0 : 0 ≤ x) (h1 : x < 8) (h2 : 0 ≤ y) (h3 : y < 8) : Calls Tryz.prog 61 (#[.int .i64 x, .int .i64 y] ++ #[]) W fun e W' => e = .returned (.tuple #[.int .i64 (7 - x), .int .i64 y]) ∧ Below W.heap.size W W' := by
  go_enter Tryz.func61, Tryz.ntmps61
  go_wp2_with fail
  go_ret2
  exact ⟨rfl, Below.refl _ _⟩
set_option maxHeartbeats 8000000 in
set_option maxRecDepth 100000 in
theorem impl_MirrorNegative.arr (xs : List Int) (hl : xs.length = 64) (h16 : ∀ x ∈ xs, -32768 ≤ x ∧ x ≤ 32767) (w : World) :
    Calls Tryz.prog 26 #[.agg (nums .i16 xs).toArray] w fun e w' => e = .returned (.tuple #[.agg (nums .i16 (D_moved p_mir xs).1).toArray, .int .i64 (D_moved p_mir xs).2]) ∧ Below w.heap.size w w' := by
  have HL := Aside0.mk hl
  have H16 := Aside0.mk h16
  have HA0 := Aside0.mk (arr_new2a w 26 .i16 xs (.cells (nums .i16 (zer 64)).toArray 26))
  have HZ0 := Aside0.mk (arr_new2b w (.cells (nums .i16 xs).toArray 26) 26 .i16 (zer 64))
  have HB0 := Aside0.mk (arr_below2 w (.cells (nums .i16 xs).toArray 26) (.cells (nums .i16 (zer 64)).toArray 26))
  clear hl h16
  go_enter Tryz.func26, Tryz.ntmps26
  go_wp2_with (first | (refine arr_load rfl 26 _ rfl w.heap.size rfl 26 .i16 xs HA0.out _ Tryz.underlying26 rfl 64 (by kernel_rfl) HL.out ?_))
  refine (impl_moved.gen 61 #[] (fun x _ => 7 - x) (fun _ y => y) (fun args W => enters_ Tryz.func61 (by kernel_rfl) rfl args W) _ (fun x y W _ a b c d => impl_MirrorNegative.clo x y W a b c d) (fun x y _ _ _ _ => by omega) xs HL.out H16.out).mono ?_
  rintro e w1 ⟨rfl, hb⟩
  have hp : (fun k : Int => (7 - k % 8) + 8 * (k / 8)) = p_mir := by funext k; unfold p_mir; omega
  have HP := Aside0.mk hp
  clear hp
  rw [HP.out]
  have HB1 := Aside0.mk (below_step HB0.out hb)
  have HZ1 := Aside0.mk (HZ0.out.below hb)
  clear hb HB0 HA0 HZ0
  obtain ⟨Z, hZ⟩ : ∃ Z, Z = D_moved p_mir xs := ⟨_, rfl⟩
  have HM := Aside0.mk (show Z.1.length = 64 by rw [hZ]; exact D_moved_len _ _)
  have HZZ := Aside0.mk hZ
  rw [← hZ]
  clear hZ
  go_wp2_with (first | (refine arr_store rfl 26 _ _ rfl (w.heap.size + 1) .i16 Z.1 rfl rfl 26 (zer 64) HZ1.out 64 (by kernel_rfl) (zer_len 64) HM.out ?_))
  refine bodyPost_ret (results_ct rfl _ _ (w.heap.size + 1) 26 (nums .i16 Z.1).toArray (0, 0) _ rfl HZ1.out.row Tryz.underlying26 rfl (by rw [show (Array.size (nums .i16 Z.1).toArray) = 64 by simp [nums, HM.out]]; kernel_rfl)) rfl ?_
  exact ⟨by rw [← HZZ.out]; rfl, below_row HB1.out (by omega) _⟩
end Go.Proofs.YtjonocgmofcieaaGreatDoor.Q
namespace Go.Proofs.YtjonocgmofcieaaGreatDoor.Q
open Go.RowKit Go.Proofs.YtjonocgmofcieaaGreatDoorW.PrintWords Go.Proofs.YtjonocgmofcieaaGreatDoorW.PrintLast Go.Proofs.YtjonocgmofcieaaGreatDoorW.PrintMore
attribute [local go_sem] max2_int min2_int max_two min_two max_three min_three max_four min_four
set_option linter.unusedVariables false
set_option linter.unusedSimpArgs false
def D_foldFrom (f : Int → Int → Int) (xs : List Int) : Nat → Int → Int → Int
  | 0, a, _ => a
  | k + 1, a, i => D_foldFrom f xs k (f a (rd xs i)) (i + 1)
theorem D_fold_range (f : Int → Int → Int) (hf : ∀ a b, f a b = a ∨ f a b = b) (xs : List Int) (hl : xs.length = 64) (P : Int → Prop) (hp : ∀ x ∈ xs, P x) : ∀ (k : Nat) (a i : Int), P a → 0 ≤ i → i + k = 64 → P (D_foldFrom f xs k a i)
  | 0, a, i, h, _, _ => h
  | k + 1, a, i, h, h0, h1 => by
    unfold D_foldFrom
    refine D_fold_range f hf xs hl P hp k _ (i + 1) ?_ (by omega) (by omega)
    rcases hf a (rd xs i) with e | e
    · rw [e]; exact h
    · rw [e]; exact arr_rd hp h0 (by omega)
def D_mn (a b : Int) : Int := if a < b then a else b
def D_mx (a b : Int) : Int := if a > b then a else b
def D_low (xs : List Int) : Int := D_foldFrom D_mn xs 63 (rd xs 0) 1
def D_high (xs : List Int) : Int := D_foldFrom D_mx xs 63 (rd xs 0) 1
def D_range (xs : List Int) : Int × Int × Int := if D_dense xs then (D_low xs, D_high xs, 0) else (0, 0, 1)
theorem D_low_range (xs : List Int) (hl : xs.length = 64) (h16 : ∀ x ∈ xs, -32768 ≤ x ∧ x ≤ 32767) : -32768 ≤ D_low xs ∧ D_low xs ≤ 32767 :=
  D_fold_range D_mn (fun a b => by unfold D_mn; split <;> simp) xs hl _ h16 63 _ 1 (arr_rd h16 (by omega) (by omega)) (by omega) (by omega)
theorem D_high_range (xs : List Int) (hl : xs.length = 64) (h16 : ∀ x ∈ xs, -32768 ≤ x ∧ x ≤ 32767) : -32768 ≤ D_high xs ∧ D_high xs ≤ 32767 :=
  D_fold_range D_mx (fun a b => by unfold D_mx; split <;> simp) xs hl _ h16 63 _ 1 (arr_rd h16 (by omega) (by omega)) (by omega) (by omega)
set_option maxHeartbeats 8000000 in
set_option maxRecDepth 100000 in
theorem slices_Min.arr (g : Nat) (T : TypeId) (xs : List Int) (hl : xs.length = 64) (w : World) (hA : ArrAt w g T .i16 xs) :
    Calls Tryz.prog 51 #[.slice (some ⟨g, 0, none⟩) 64 64] w fun e w' => e = .returned (.int .i16 (D_low xs)) ∧ Below w.heap.size w w' := by
  have HL := Aside0.mk hl
  have HA0 := Aside0.mk hA
  have c0 : w.cell? ⟨g, 0, none⟩ = some (.int .i16 (rd xs 0)) := hA.cell (i := 0) (by omega) (by omega)
  clear hl hA
  go_enter Tryz.func51, Tryz.ntmps51
  go_wp2_with fail
  go_loopg [3, 4] 63 (fun kq v3 v4 w' => ∃ (a i : Int) (W : World), W = w' ∧ v3 = .int .i16 a ∧ v4 = .int .i64 i ∧ Aside0 (0 ≤ i ∧ i + kq = 64) ∧ Aside0 (D_low xs = D_foldFrom D_mn xs kq a i) ∧ Aside0 (ArrAt W g T .i16 xs) ∧ Aside0 (Below w.heap.size w W))
  case atStart => exact ⟨_, 1, _, rfl, rfl, rfl, ⟨by omega⟩, ⟨rfl⟩, HA0, ⟨Below.refl _ _⟩⟩
  case round =>
    clear HA0 c0
    obtain ⟨a, i, W, rfl, rfl, rfl, HI, HF, HA, HB⟩ := hrel
    cases gk with
    | zero =>
      have hdec : decide (i < 64) = false := decide_eq_false (by have := HI.out; omega)
      have hge : 64 ≤ i := by have := HI.out; omega
      have HF1 := Aside0.mk (show D_low xs = a from HF.out)
      go_wp2_with fail
      go_ret
      exact ⟨by rw [HF1.out]; rfl, HB.out⟩
    | succ k1 =>
      have h0 := HI.out.1
      have hi : i < 64 := by have := HI.out.2; omega
      have c1 : W.cell? ⟨g, i.toNat, none⟩ = some (.int .i16 (rd xs i)) := HA.out.cell h0 (by rw [HL.out]; omega)
      go_wp2_with fail
      · have HF1 := Aside0.mk (show D_low xs = D_foldFrom D_mn xs k1 (D_mn a (rd xs i)) (i + 1) from HF.out)
        have e : D_mn a (rd xs i) = rd xs i := by unfold D_mn; split <;> omega
        rw [e] at HF1
        go_roundg k1
        case measure => omega
        case rel => exact ⟨_, i + 1, _, rfl, rfl, rfl, ⟨by have := HI.out; omega⟩, HF1, HA, HB⟩
      · have HF1 := Aside0.mk (show D_low xs = D_foldFrom D_mn xs k1 (D_mn a (rd xs i)) (i + 1) from HF.out)
        have e : D_mn a (rd xs i) = a := by unfold D_mn; split <;> omega
        rw [e] at HF1
        go_roundg k1
        case measure => omega
        case rel => exact ⟨_, i + 1, _, rfl, rfl, rfl, ⟨by have := HI.out; omega⟩, HF1, HA, HB⟩
set_option maxHeartbeats 8000000 in
set_option maxRecDepth 100000 in
theorem slices_Max.arr (g : Nat) (T : TypeId) (xs : List Int) (hl : xs.length = 64) (w : World) (hA : ArrAt w g T .i16 xs) :
    Calls Tryz.prog 52 #[.slice (some ⟨g, 0, none⟩) 64 64] w fun e w' => e = .returned (.int .i16 (D_high xs)) ∧ Below w.heap.size w w' := by
  have HL := Aside0.mk hl
  have HA0 := Aside0.mk hA
  have c0 : w.cell? ⟨g, 0, none⟩ = some (.int .i16 (rd xs 0)) := hA.cell (i := 0) (by omega) (by omega)
  clear hl hA
  go_enter Tryz.func52, Tryz.ntmps52
  go_wp2_with fail
  go_loopg [3, 4] 63 (fun kq v3 v4 w' => ∃ (a i : Int) (W : World), W = w' ∧ v3 = .int .i16 a ∧ v4 = .int .i64 i ∧ Aside0 (0 ≤ i ∧ i + kq = 64) ∧ Aside0 (D_high xs = D_foldFrom D_mx xs kq a i) ∧ Aside0 (ArrAt W g T .i16 xs) ∧ Aside0 (Below w.heap.size w W))
  case atStart => exact ⟨_, 1, _, rfl, rfl, rfl, ⟨by omega⟩, ⟨rfl⟩, HA0, ⟨Below.refl _ _⟩⟩
  case round =>
    clear HA0 c0
    obtain ⟨a, i, W, rfl, rfl, rfl, HI, HF, HA, HB⟩ := hrel
    cases gk with
    | zero =>
      have hdec : decide (i < 64) = false := decide_eq_false (by have := HI.out; omega)
      have hge : 64 ≤ i := by have := HI.out; omega
      have HF1 := Aside0.mk (show D_high xs = a from HF.out)
      go_wp2_with fail
      go_ret
      exact ⟨by rw [HF1.out]; rfl, HB.out⟩
    | succ k1 =>
      have h0 := HI.out.1
      have hi : i < 64 := by have := HI.out.2; omega
      have c1 : W.cell? ⟨g, i.toNat, none⟩ = some (.int .i16 (rd xs i)) := HA.out.cell h0 (by rw [HL.out]; omega)
      go_wp2_with fail
      · have HF1 := Aside0.mk (show D_high xs = D_foldFrom D_mx xs k1 (D_mx a (rd xs i)) (i + 1) from HF.out)
        have e : D_mx a (rd xs i) = rd xs i := by unfold D_mx; split <;> omega
        rw [e] at HF1
        go_roundg k1
        case measure => omega
        case rel => exact ⟨_, i + 1, _, rfl, rfl, rfl, ⟨by have := HI.out; omega⟩, HF1, HA, HB⟩
      · have HF1 := Aside0.mk (show D_high xs = D_foldFrom D_mx xs k1 (D_mx a (rd xs i)) (i + 1) from HF.out)
        have e : D_mx a (rd xs i) = a := by unfold D_mx; split <;> omega
        rw [e] at HF1
        go_roundg k1
        case measure => omega
        case rel => exact ⟨_, i + 1, _, rfl, rfl, rfl, ⟨by have := HI.out; omega⟩, HF1, HA, HB⟩
set_option maxHeartbeats 8000000 in
set_option maxRecDepth 100000 in
theorem impl_RangeOf.arr (xs : List Int) (hl : xs.length = 64) (h16 : ∀ x ∈ xs, -32768 ≤ x ∧ x ≤ 32767) (w : World) :
    Calls Tryz.prog 17 #[.agg (nums .i16 xs).toArray] w fun e w' => e = .returned (.tuple #[.int .i64 (D_range xs).1, .int .i64 (D_range xs).2.1, .int .i64 (D_range xs).2.2]) ∧ Below w.heap.size w w' := by
  have HL := Aside0.mk hl
  have H16 := Aside0.mk h16
  have HA0 := Aside0.mk (ArrAt.new w 33 .i16 xs)
  have HB0 := Aside0.mk ((Below.refl w.heap.size w).alloc (Nat.le_refl _) (.cells (nums .i16 xs).toArray 33))
  clear hl h16
  go_enter Tryz.func17, Tryz.ntmps17
  go_wp2_with (first | (refine arr_load rfl 33 _ rfl w.heap.size rfl 33 .i16 xs HA0.out _ Tryz.underlying33 rfl 64 (by kernel_rfl) HL.out ?_))
  refine (impl_ValidPrint.arr xs HL.out H16.out _).mono ?_
  rintro e w1 ⟨rfl, hb⟩
  have HB1 := Aside0.mk (below_step HB0.out hb)
  have HA1 := Aside0.mk (HA0.out.below hb)
  clear hb HB0 HA0
  by_cases hd : D_dense xs
  · have hdd : decide (D_dense xs) = true := decide_eq_true hd
    have HD := Aside0.mk (show D_range xs = (D_low xs, D_high xs, 0) from if_pos hd)
    clear hd
    have r1 := D_low_range xs HL.out H16.out
    have r2 := D_high_range xs HL.out H16.out
    have e1 : IntKind.i64.wrap (D_low xs) = D_low xs := by simp [IntKind.wrap, IntKind.bits, IntKind.signed]; omega
    have e2 : IntKind.i64.wrap (D_high xs) = D_high xs := by simp [IntKind.wrap, IntKind.bits, IntKind.signed]; omega
    clear r1 r2
    go_wp2_with fail
    have a1 : ArrAt w1.drew w.heap.size 33 .i16 xs := HA1.out
    have b1 := below_drew1 HB1.out
    have s1 : w.heap.size < w1.heap.size := HA1.out.lt
    go_region_held3 (fun w' => ArrAt w' w.heap.size 33 .i16 xs ∧ Below w.heap.size w w')
      (first | ((try dsimp only at *); go_split_ands; exact ⟨ArrAt.below (by assumption) hb, below_step (by assumption) hb⟩) | exact ⟨a1, b1⟩)
      (first
        | (go_at_call 51; refine (slices_Min.arr w.heap.size 33 xs HL.out _ (by (try dsimp only at *); go_split_ands; assumption)).mono ?_; rintro e w1 ⟨rfl, hb⟩)
        | (go_at_call 52; refine (slices_Max.arr w.heap.size 33 xs HL.out _ (by (try dsimp only at *); go_split_ands; assumption)).mono ?_; rintro e w1 ⟨rfl, hb⟩))
    go_wp2_with fail
    go_ret3
    exact ⟨by rw [HD.out]; rfl, by (try dsimp only at *); go_split_ands; assumption⟩
  · have hdd : decide (D_dense xs) = false := decide_eq_false hd
    have HD := Aside0.mk (show D_range xs = (0, 0, 1) from if_neg hd)
    clear hd
    go_wp2_with fail
    go_ret3
    exact ⟨by rw [HD.out]; rfl, HB1.out⟩
end Go.Proofs.YtjonocgmofcieaaGreatDoor.Q
