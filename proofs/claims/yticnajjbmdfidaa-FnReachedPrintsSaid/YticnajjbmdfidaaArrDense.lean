-- Arrays of 64 densities.
import Derived.Test.YticnajjbmdfidaaQx5
import Derived.Test.YticnajjbmdfidaaQx7
import Derived.Test.YticnajjbmdfidaaArrKit
namespace Go.Proofs.Yticnajjbmdfidaa.Q
open Go.RowKit Go.Proofs.YticnajjbmdfidaaW.PrintWords Go.Proofs.YticnajjbmdfidaaW.PrintLast Go.Proofs.YticnajjbmdfidaaW.PrintMore
attribute [local go_sem] max2_int min2_int max_two min_two max_three min_three max_four min_four
set_option linter.unusedVariables false
set_option linter.unusedSimpArgs false
theorem szI16 (w : World) : (sizeOf 35).run Try.prog w = .ok 1 w := by kernel_rfl
theorem agI16 (w : World) : (isAgg 35).run Try.prog w = .ok false w := by kernel_rfl
def D_dense (xs : List Int) : Prop := ∀ x ∈ xs, 0 ≤ x ∧ x ≤ 400
instance (xs : List Int) : Decidable (D_dense xs) := by unfold D_dense; infer_instance
def D_moved (p : Int → Int) (xs : List Int) : List Int × Int := if D_dense xs then (perm 64 p xs, 0) else (zer 64, 1)
theorem D_moved_len (p : Int → Int) (xs : List Int) : (D_moved p xs).1.length = 64 := by unfold D_moved; split <;> simp [perm, zer]
theorem D_dense_iff {xs : List Int} : (decide (D_dense xs)) = true ↔ ∀ i : Int, 0 ≤ i → i < xs.length → 0 ≤ rd xs i ∧ rd xs i ≤ 400 := arr_all (P := fun x => 0 ≤ x ∧ x ≤ 400)
set_option maxHeartbeats 8000000 in
set_option maxRecDepth 100000 in
theorem impl_areDensities.arr (xs : List Int) (hl : xs.length = 64) (h16 : ∀ x ∈ xs, -32768 ≤ x ∧ x ≤ 32767) (w : World) :
    Calls Try.prog 102 #[.agg (nums .i16 xs).toArray] w fun e w' => e = .returned (.bool (decide (D_dense xs))) ∧ Below w.heap.size w w' := by
  have HL := Aside0.mk hl
  have H16 := Aside0.mk h16
  have HN := Aside0.mk (ArrAt.new w 36 .i16 xs)
  have HB0 := Aside0.mk ((Below.refl w.heap.size w).alloc (Nat.le_refl _) (.cells (nums .i16 xs).toArray 36))
  clear hl h16
  go_enter Try.func102, Try.ntmps102
  go_wp2_with (first | (refine arr_load rfl 36 _ rfl (w.heap.size) rfl 36 .i16 xs HN.out _ Try.underlying36 rfl 64 (by kernel_rfl) HL.out ?_))
  go_loopg [6] 64 (fun kq v6 w' => ∃ (i : Int) (W : World), W = w' ∧ v6 = .int .i64 i ∧ Aside0 (0 ≤ i ∧ i + kq = 64) ∧ Aside0 (∀ j : Int, 0 ≤ j → j < i → 0 ≤ rd xs j ∧ rd xs j ≤ 400) ∧ Aside0 (Below w.heap.size w W))
  case atStart => exact ⟨0, _, rfl, rfl, ⟨by omega⟩, ⟨fun j _ _ => by omega⟩, HB0⟩
  case round =>
    clear HN HB0
    obtain ⟨i, W, rfl, rfl, HI, HD, HB⟩ := hrel
    cases gk with
    | zero =>
      have hdec : decide (i < 64) = false := decide_eq_false (by have := HI.out; omega)
      have hall : (decide (D_dense xs)) = true := by
        rw [D_dense_iff]; intro j h0 h1; exact HD.out j h0 (by have := HI.out; have := HL.out; omega)
      go_wp2_with fail
      go_ret
      exact ⟨by rw [hall]; rfl, HB.out⟩
    | succ k1 =>
      have h0 := HI.out.1
      have hi : i < 64 := by have := HI.out.2; omega
      have hx := arr_index (k := .i16) (xs := xs) Try.underlying36 szI16 agI16 h0 (by rw [HL.out]; omega) HL.out
      have hc := arr_rd H16.out h0 (by rw [HL.out]; omega)
      have hcv : IntKind.i64.wrap (rd xs i) = rd xs i := by simp [IntKind.wrap, IntKind.bits, IntKind.signed]; omega
      go_wp2_with fail
      refine (impl_isDensity.calls (rd xs i) (decide (0 ≤ rd xs i ∧ rd xs i ≤ 400)) W (by unfold impl_isDensity.f impl_within.f; rw [arr_within]; rfl)).mono ?_
      rintro e w1 ⟨rfl, hb⟩
      have HB1 := Aside0.mk (below_step HB.out hb.below)
      clear hb HB hx hcv hc
      by_cases hd : 0 ≤ rd xs i ∧ rd xs i ≤ 400
      · have hdd : decide (0 ≤ rd xs i ∧ rd xs i ≤ 400) = true := decide_eq_true hd
        have HD1 := Aside0.mk (fun (j : Int) (h1 : 0 ≤ j) (h2 : j < i + 1) => if h : j < i then HD.out j h1 h else (show j = i by omega) ▸ hd)
        clear hd
        go_wp2_with fail
        go_roundg k1
        case measure => omega
        case rel => exact ⟨i + 1, _, rfl, rfl, ⟨by have := HI.out; omega⟩, HD1, HB1⟩
      · have hdd : decide (0 ≤ rd xs i ∧ rd xs i ≤ 400) = false := decide_eq_false hd
        have hall : (decide (D_dense xs)) = false := by
          rw [decide_eq_false_iff_not]; intro h; exact hd (arr_rd (P := fun x => 0 ≤ x ∧ x ≤ 400) h h0 (by have := HL.out; omega))
        clear hd
        go_wp2_with fail
        go_ret
        exact ⟨by rw [hall]; rfl, HB1.out⟩
set_option maxHeartbeats 8000000 in
set_option maxRecDepth 100000 in
theorem spec_l03Dense.arr (g : Nat) (xs : List Int) (hl : xs.length = 64) (h16 : ∀ x ∈ xs, -32768 ≤ x ∧ x ≤ 32767) (w : World) (hA : ArrAt w g 36 .i16 xs) :
    Calls Try.prog 100 #[.pointer (some ⟨g, 0, none⟩)] w fun e w' => e = .returned (.bool (decide (D_dense xs))) ∧ Below w.heap.size w w' := by
  have HL := Aside0.mk hl
  have H16 := Aside0.mk h16
  have HA0 := Aside0.mk hA
  clear hl h16 hA
  go_enter Try.func100, Try.ntmps100
  go_wp2_with fail
  go_loopg [3] 64 (fun kq v3 w' => ∃ (i : Int) (W : World), W = w' ∧ v3 = .int .i64 i ∧ Aside0 (0 ≤ i ∧ i + kq = 64) ∧ Aside0 (∀ j : Int, 0 ≤ j → j < i → 0 ≤ rd xs j ∧ rd xs j ≤ 400) ∧ Aside0 (ArrAt W g 36 .i16 xs) ∧ Aside0 (Below w.heap.size w W))
  case atStart => exact ⟨0, _, rfl, rfl, ⟨by omega⟩, ⟨fun j _ _ => by omega⟩, HA0, ⟨Below.refl _ _⟩⟩
  case round =>
    clear HA0
    obtain ⟨i, W, rfl, rfl, HI, HD, HA, HB⟩ := hrel
    cases gk with
    | zero =>
      have hdec : decide (i < 64) = false := decide_eq_false (by have := HI.out; omega)
      have hall : (decide (D_dense xs)) = true := by
        rw [D_dense_iff]; intro j h0 h1; exact HD.out j h0 (by have := HI.out; have := HL.out; omega)
      go_wp2_with fail
      go_ret
      exact ⟨by rw [hall]; rfl, HB.out⟩
    | succ k1 =>
      have h0 := HI.out.1
      have hi : i < 64 := by have := HI.out.2; omega
      have c1 : W.cell? ⟨g, i.toNat, none⟩ = some (.int .i16 (rd xs i)) := HA.out.cell h0 (by rw [HL.out]; omega)
      have hc := arr_rd H16.out h0 (by rw [HL.out]; omega)
      have hcv : IntKind.i64.wrap (rd xs i) = rd xs i := by simp [IntKind.wrap, IntKind.bits, IntKind.signed]; omega
      go_wp2_with fail
      refine (spec_l02Density.calls (rd xs i) (decide (0 ≤ rd xs i ∧ rd xs i ≤ 400)) W (by unfold spec_l02Density.f spec_l00In.f; rw [arr_within]; rfl)).mono ?_
      rintro e w1 ⟨rfl, hb⟩
      have HB1 := Aside0.mk (below_step HB.out hb.below)
      have HA1 := Aside0.mk (HA.out.below hb.below)
      clear hb HB HA c1 hcv hc
      by_cases hd : 0 ≤ rd xs i ∧ rd xs i ≤ 400
      · have hdd : decide (0 ≤ rd xs i ∧ rd xs i ≤ 400) = true := decide_eq_true hd
        have HD1 := Aside0.mk (fun (j : Int) (h1 : 0 ≤ j) (h2 : j < i + 1) => if h : j < i then HD.out j h1 h else (show j = i by omega) ▸ hd)
        clear hd
        go_wp2_with fail
        go_roundg k1
        case measure => omega
        case rel => exact ⟨i + 1, _, rfl, rfl, ⟨by have := HI.out; omega⟩, HD1, HA1, HB1⟩
      · have hdd : decide (0 ≤ rd xs i ∧ rd xs i ≤ 400) = false := decide_eq_false hd
        have hall : (decide (D_dense xs)) = false := by
          rw [decide_eq_false_iff_not]; intro h; exact hd (arr_rd (P := fun x => 0 ≤ x ∧ x ≤ 400) h h0 (by have := HL.out; omega))
        clear hd
        go_wp2_with fail
        go_ret
        exact ⟨by rw [hall]; rfl, HB1.out⟩
end Go.Proofs.Yticnajjbmdfidaa.Q
