-- A print's range.
import Derived.Test.YtcplikffpmihpaaQx3
import Derived.Test.YtcplikffpmihpaaQx5
import Derived.Test.YtcplikffpmihpaaArrPrint
namespace Go.Proofs.Ytcplikffpmihpaa.Q
open Go.RowKit Go.Proofs.YtcplikffpmihpaaW.PrintWords Go.Proofs.YtcplikffpmihpaaW.PrintLast Go.Proofs.YtcplikffpmihpaaW.PrintMore
attribute [local go_sem] max2_int min2_int max_two min_two max_three min_three max_four min_four
set_option linter.unusedVariables false
set_option linter.unusedSimpArgs false
def D_foldFrom (f : Int → Int → Int) (xs : List Int) : Nat → Int → Int → Int
  | 0, a, _ => a
  | k + 1, a, i => D_foldFrom f xs k (f a (rd xs i)) (i + 1)
theorem D_fold_range (f : Int → Int → Int) (hf : ∀ a b, f a b = a ∨ f a b = b) (xs : List Int) (hl : xs.length = 64) (P : Int → Prop) (hp : ∀ x ∈ xs, P x) : ∀ (k : Nat) (a i : Int), P a → 0 ≤ i → i + k = 64 → P (D_foldFrom f xs k a i)
  | 0, a, i, h, _, _ => h
  | k + 1, a, i, h, h0, h1 => by
    unfold D_foldFrom
    refine D_fold_range f hf xs hl P hp k _ (i + 1) ?_ (by omega) (by omega)
    rcases hf a (rd xs i) with e | e
    · rw [e]; exact h
    · rw [e]; exact arr_rd hp h0 (by omega)
def D_mn (a b : Int) : Int := if a < b then a else b
def D_mx (a b : Int) : Int := if a > b then a else b
def D_low (xs : List Int) : Int := D_foldFrom D_mn xs 63 (rd xs 0) 1
def D_high (xs : List Int) : Int := D_foldFrom D_mx xs 63 (rd xs 0) 1
def D_range (xs : List Int) : Int × Int × Int := if D_dense xs then (D_low xs, D_high xs, 0) else (0, 0, 1)
theorem D_low_range (xs : List Int) (hl : xs.length = 64) (h16 : ∀ x ∈ xs, -32768 ≤ x ∧ x ≤ 32767) : -32768 ≤ D_low xs ∧ D_low xs ≤ 32767 :=
  D_fold_range D_mn (fun a b => by unfold D_mn; split <;> simp) xs hl _ h16 63 _ 1 (arr_rd h16 (by omega) (by omega)) (by omega) (by omega)
theorem D_high_range (xs : List Int) (hl : xs.length = 64) (h16 : ∀ x ∈ xs, -32768 ≤ x ∧ x ≤ 32767) : -32768 ≤ D_high xs ∧ D_high xs ≤ 32767 :=
  D_fold_range D_mx (fun a b => by unfold D_mx; split <;> simp) xs hl _ h16 63 _ 1 (arr_rd h16 (by omega) (by omega)) (by omega) (by omega)
set_option maxHeartbeats 8000000 in
set_option maxRecDepth 100000 in
theorem slices_Min.arr (g : Nat) (T : TypeId) (xs : List Int) (hl : xs.length = 64) (w : World) (hA : ArrAt w g T .i16 xs) :
    Calls Try.prog 77 #[.slice (some ⟨g, 0, none⟩) 64 64] w fun e w' => e = .returned (.int .i16 (D_low xs)) ∧ Below w.heap.size w w' := by
  have HL := Aside0.mk hl
  have HA0 := Aside0.mk hA
  have c0 : w.cell? ⟨g, 0, none⟩ = some (.int .i16 (rd xs 0)) := hA.cell (i := 0) (by omega) (by omega)
  clear hl hA
  go_enter Try.func77, Try.ntmps77
  go_wp2_with fail
  go_loopg [3, 4] 63 (fun kq v3 v4 w' => ∃ (a i : Int) (W : World), W = w' ∧ v3 = .int .i16 a ∧ v4 = .int .i64 i ∧ Aside0 (0 ≤ i ∧ i + kq = 64) ∧ Aside0 (D_low xs = D_foldFrom D_mn xs kq a i) ∧ Aside0 (ArrAt W g T .i16 xs) ∧ Aside0 (Below w.heap.size w W))
  case atStart => exact ⟨_, 1, _, rfl, rfl, rfl, ⟨by omega⟩, ⟨rfl⟩, HA0, ⟨Below.refl _ _⟩⟩
  case round =>
    clear HA0 c0
    obtain ⟨a, i, W, rfl, rfl, rfl, HI, HF, HA, HB⟩ := hrel
    cases gk with
    | zero =>
      have hdec : decide (i < 64) = false := decide_eq_false (by have := HI.out; omega)
      have hge : 64 ≤ i := by have := HI.out; omega
      have HF1 := Aside0.mk (show D_low xs = a from HF.out)
      go_wp2_with fail
      go_ret
      exact ⟨by rw [HF1.out]; rfl, HB.out⟩
    | succ k1 =>
      have h0 := HI.out.1
      have hi : i < 64 := by have := HI.out.2; omega
      have c1 : W.cell? ⟨g, i.toNat, none⟩ = some (.int .i16 (rd xs i)) := HA.out.cell h0 (by rw [HL.out]; omega)
      go_wp2_with fail
      · have HF1 := Aside0.mk (show D_low xs = D_foldFrom D_mn xs k1 (D_mn a (rd xs i)) (i + 1) from HF.out)
        have e : D_mn a (rd xs i) = rd xs i := by unfold D_mn; split <;> omega
        rw [e] at HF1
        go_roundg k1
        case measure => omega
        case rel => exact ⟨_, i + 1, _, rfl, rfl, rfl, ⟨by have := HI.out; omega⟩, HF1, HA, HB⟩
      · have HF1 := Aside0.mk (show D_low xs = D_foldFrom D_mn xs k1 (D_mn a (rd xs i)) (i + 1) from HF.out)
        have e : D_mn a (rd xs i) = a := by unfold D_mn; split <;> omega
        rw [e] at HF1
        go_roundg k1
        case measure => omega
        case rel => exact ⟨_, i + 1, _, rfl, rfl, rfl, ⟨by have := HI.out; omega⟩, HF1, HA, HB⟩
set_option maxHeartbeats 8000000 in
set_option maxRecDepth 100000 in
theorem slices_Max.arr (g : Nat) (T : TypeId) (xs : List Int) (hl : xs.length = 64) (w : World) (hA : ArrAt w g T .i16 xs) :
    Calls Try.prog 78 #[.slice (some ⟨g, 0, none⟩) 64 64] w fun e w' => e = .returned (.int .i16 (D_high xs)) ∧ Below w.heap.size w w' := by
  have HL := Aside0.mk hl
  have HA0 := Aside0.mk hA
  have c0 : w.cell? ⟨g, 0, none⟩ = some (.int .i16 (rd xs 0)) := hA.cell (i := 0) (by omega) (by omega)
  clear hl hA
  go_enter Try.func78, Try.ntmps78
  go_wp2_with fail
  go_loopg [3, 4] 63 (fun kq v3 v4 w' => ∃ (a i : Int) (W : World), W = w' ∧ v3 = .int .i16 a ∧ v4 = .int .i64 i ∧ Aside0 (0 ≤ i ∧ i + kq = 64) ∧ Aside0 (D_high xs = D_foldFrom D_mx xs kq a i) ∧ Aside0 (ArrAt W g T .i16 xs) ∧ Aside0 (Below w.heap.size w W))
  case atStart => exact ⟨_, 1, _, rfl, rfl, rfl, ⟨by omega⟩, ⟨rfl⟩, HA0, ⟨Below.refl _ _⟩⟩
  case round =>
    clear HA0 c0
    obtain ⟨a, i, W, rfl, rfl, rfl, HI, HF, HA, HB⟩ := hrel
    cases gk with
    | zero =>
      have hdec : decide (i < 64) = false := decide_eq_false (by have := HI.out; omega)
      have hge : 64 ≤ i := by have := HI.out; omega
      have HF1 := Aside0.mk (show D_high xs = a from HF.out)
      go_wp2_with fail
      go_ret
      exact ⟨by rw [HF1.out]; rfl, HB.out⟩
    | succ k1 =>
      have h0 := HI.out.1
      have hi : i < 64 := by have := HI.out.2; omega
      have c1 : W.cell? ⟨g, i.toNat, none⟩ = some (.int .i16 (rd xs i)) := HA.out.cell h0 (by rw [HL.out]; omega)
      go_wp2_with fail
      · have HF1 := Aside0.mk (show D_high xs = D_foldFrom D_mx xs k1 (D_mx a (rd xs i)) (i + 1) from HF.out)
        have e : D_mx a (rd xs i) = rd xs i := by unfold D_mx; split <;> omega
        rw [e] at HF1
        go_roundg k1
        case measure => omega
        case rel => exact ⟨_, i + 1, _, rfl, rfl, rfl, ⟨by have := HI.out; omega⟩, HF1, HA, HB⟩
      · have HF1 := Aside0.mk (show D_high xs = D_foldFrom D_mx xs k1 (D_mx a (rd xs i)) (i + 1) from HF.out)
        have e : D_mx a (rd xs i) = a := by unfold D_mx; split <;> omega
        rw [e] at HF1
        go_roundg k1
        case measure => omega
        case rel => exact ⟨_, i + 1, _, rfl, rfl, rfl, ⟨by have := HI.out; omega⟩, HF1, HA, HB⟩
set_option maxHeartbeats 8000000 in
set_option maxRecDepth 100000 in
theorem spec_RangeOf.arr (xs : List Int) (hl : xs.length = 64) (h16 : ∀ x ∈ xs, -32768 ≤ x ∧ x ≤ 32767) (w : World) :
    Calls Try.prog 35 #[.agg (nums .i16 xs).toArray] w fun e w' => e = .returned (.tuple #[.int .i64 (D_range xs).1, .int .i64 (D_range xs).2.1, .int .i64 (D_range xs).2.2]) ∧ Below w.heap.size w w' := by
  have HL := Aside0.mk hl
  have H16 := Aside0.mk h16
  have HA0 := Aside0.mk (ArrAt.new w 33 .i16 xs)
  have HB0 := Aside0.mk ((Below.refl w.heap.size w).alloc (Nat.le_refl _) (.cells (nums .i16 xs).toArray 33))
  clear hl h16
  go_enter Try.func35, Try.ntmps35
  go_wp2_with fail
  refine (spec_l03Print.arr w.heap.size xs HL.out H16.out _ HA0.out).mono ?_
  rintro e w1 ⟨rfl, hb⟩
  have HB1 := Aside0.mk (below_step HB0.out hb)
  have HA1 := Aside0.mk (HA0.out.below hb)
  clear hb HB0 HA0
  by_cases hd : D_dense xs
  · have hdd : decide (D_dense xs) = true := decide_eq_true hd
    have HD := Aside0.mk (show D_range xs = (D_low xs, D_high xs, 0) from if_pos hd)
    clear hd
    have c0 : w1.cell? ⟨w.heap.size, 0, none⟩ = some (.int .i16 (rd xs 0)) := HA1.out.cell (i := 0) (by omega) (by rw [HL.out]; omega)
    have hc := arr_rd (i := 0) H16.out (by omega) (by rw [HL.out]; omega)
    have e0 : IntKind.i64.wrap (rd xs 0) = rd xs 0 := by simp [IntKind.wrap, IntKind.bits, IntKind.signed]; omega
    go_wp2_with fail
    go_loopg [5, 6, 7] 63 (fun kq v5 v6 v7 w' => ∃ (a b i : Int) (W : World), W = w' ∧ v5 = .int .i64 a ∧ v6 = .int .i64 b ∧ v7 = .int .i64 i ∧ Aside0 (0 ≤ i ∧ i + kq = 64) ∧ Aside0 (D_low xs = D_foldFrom D_mn xs kq a i) ∧ Aside0 (D_high xs = D_foldFrom D_mx xs kq b i) ∧ Aside0 (ArrAt W w.heap.size 33 .i16 xs) ∧ Aside0 (Below w.heap.size w W))
    case atStart => exact ⟨_, _, 1, _, rfl, rfl, rfl, rfl, ⟨by omega⟩, ⟨rfl⟩, ⟨rfl⟩, HA1, HB1⟩
    case round =>
      clear HA1 HB1 c0 hc e0
      obtain ⟨a, b, i, W, rfl, rfl, rfl, rfl, HI, HF, HG, HA, HB⟩ := hrel
      cases gk with
      | zero =>
        have hdec : decide (i < 64) = false := decide_eq_false (by have := HI.out; omega)
        have hge : 64 ≤ i := by have := HI.out; omega
        have HF1 := Aside0.mk (show D_low xs = a from HF.out)
        have HG1 := Aside0.mk (show D_high xs = b from HG.out)
        go_wp2_with fail
        go_ret3
        exact ⟨by rw [HD.out, HF1.out, HG1.out]; rfl, HB.out⟩
      | succ k1 =>
        have h0 := HI.out.1
        have hi : i < 64 := by have := HI.out.2; omega
        have hc := arr_rd H16.out h0 (by rw [HL.out]; omega)
        have hcv : IntKind.i64.wrap (rd xs i) = rd xs i := by simp [IntKind.wrap, IntKind.bits, IntKind.signed]; omega
        have c1 : W.cell? ⟨w.heap.size, i.toNat, none⟩ = some (.int .i16 (rd xs i)) := HA.out.cell h0 (by rw [HL.out]; omega)
        go_wp2_with fail
        refine (spec_l00Min.calls a (rd xs i) (D_mn a (rd xs i)) _ (by unfold spec_l00Min.f D_mn; split <;> rfl)).mono ?_
        rintro e w2 ⟨rfl, hb⟩
        have HB2 := Aside0.mk (below_step HB.out hb.below)
        have HA2 := Aside0.mk (HA.out.below hb.below)
        clear hb HB HA c1
        have c2 : w2.cell? ⟨w.heap.size, i.toNat, none⟩ = some (.int .i16 (rd xs i)) := HA2.out.cell h0 (by rw [HL.out]; omega)
        go_wp2_with fail
        refine (spec_l00Max.calls b (rd xs i) (D_mx b (rd xs i)) _ (by unfold spec_l00Max.f D_mx; split <;> rfl)).mono ?_
        rintro e w3 ⟨rfl, hb⟩
        have HB3 := Aside0.mk (below_step HB2.out hb.below)
        have HA3 := Aside0.mk (HA2.out.below hb.below)
        clear hb HB2 HA2 c2 hc hcv
        go_wp2_with fail
        go_roundg k1
        case measure => omega
        case rel => exact ⟨_, _, i + 1, _, rfl, rfl, rfl, rfl, ⟨by have := HI.out; omega⟩, ⟨HF.out⟩, ⟨HG.out⟩, HA3, HB3⟩
  · have hdd : decide (D_dense xs) = false := decide_eq_false hd
    have HD := Aside0.mk (show D_range xs = (0, 0, 1) from if_neg hd)
    clear hd
    go_wp2_with fail
    go_ret3
    exact ⟨by rw [HD.out]; rfl, HB1.out⟩
set_option maxHeartbeats 8000000 in
set_option maxRecDepth 100000 in
theorem impl_RangeOf.arr (xs : List Int) (hl : xs.length = 64) (h16 : ∀ x ∈ xs, -32768 ≤ x ∧ x ≤ 32767) (w : World) :
    Calls Try.prog 36 #[.agg (nums .i16 xs).toArray] w fun e w' => e = .returned (.tuple #[.int .i64 (D_range xs).1, .int .i64 (D_range xs).2.1, .int .i64 (D_range xs).2.2]) ∧ Below w.heap.size w w' := by
  have HL := Aside0.mk hl
  have H16 := Aside0.mk h16
  have HA0 := Aside0.mk (ArrAt.new w 33 .i16 xs)
  have HB0 := Aside0.mk ((Below.refl w.heap.size w).alloc (Nat.le_refl _) (.cells (nums .i16 xs).toArray 33))
  clear hl h16
  go_enter Try.func36, Try.ntmps36
  go_wp2_with (first | (refine arr_load rfl 33 _ rfl w.heap.size rfl 33 .i16 xs HA0.out _ Try.underlying33 rfl 64 (by kernel_rfl) HL.out ?_))
  refine (impl_ValidPrint.arr xs HL.out H16.out _).mono ?_
  rintro e w1 ⟨rfl, hb⟩
  have HB1 := Aside0.mk (below_step HB0.out hb)
  have HA1 := Aside0.mk (HA0.out.below hb)
  clear hb HB0 HA0
  by_cases hd : D_dense xs
  · have hdd : decide (D_dense xs) = true := decide_eq_true hd
    have HD := Aside0.mk (show D_range xs = (D_low xs, D_high xs, 0) from if_pos hd)
    clear hd
    have r1 := D_low_range xs HL.out H16.out
    have r2 := D_high_range xs HL.out H16.out
    have e1 : IntKind.i64.wrap (D_low xs) = D_low xs := by simp [IntKind.wrap, IntKind.bits, IntKind.signed]; omega
    have e2 : IntKind.i64.wrap (D_high xs) = D_high xs := by simp [IntKind.wrap, IntKind.bits, IntKind.signed]; omega
    clear r1 r2
    go_wp2_with fail
    have a1 : ArrAt w1.drew w.heap.size 33 .i16 xs := HA1.out
    have b1 := below_drew1 HB1.out
    have s1 : w.heap.size < w1.heap.size := HA1.out.lt
    go_region_held3 (fun w' => ArrAt w' w.heap.size 33 .i16 xs ∧ Below w.heap.size w w')
      (first | ((try dsimp only at *); go_split_ands; exact ⟨ArrAt.below (by assumption) hb, below_step (by assumption) hb⟩) | exact ⟨a1, b1⟩)
      (first
        | (go_at_call 77; refine (slices_Min.arr w.heap.size 33 xs HL.out _ (by (try dsimp only at *); go_split_ands; assumption)).mono ?_; rintro e w1 ⟨rfl, hb⟩)
        | (go_at_call 78; refine (slices_Max.arr w.heap.size 33 xs HL.out _ (by (try dsimp only at *); go_split_ands; assumption)).mono ?_; rintro e w1 ⟨rfl, hb⟩))
    go_wp2_with fail
    go_ret3
    exact ⟨by rw [HD.out]; rfl, by (try dsimp only at *); go_split_ands; assumption⟩
  · have hdd : decide (D_dense xs) = false := decide_eq_false hd
    have HD := Aside0.mk (show D_range xs = (0, 0, 1) from if_neg hd)
    clear hd
    go_wp2_with fail
    go_ret3
    exact ⟨by rw [HD.out]; rfl, HB1.out⟩
set_option maxHeartbeats 8000000 in
set_option maxRecDepth 100000 in
theorem laws_FnExactRangeOf.arr (xs : List Int) (hl : xs.length = 64) (h16 : ∀ x ∈ xs, -32768 ≤ x ∧ x ≤ 32767) (w : World) :
    Calls Try.prog 9 #[.agg (nums .i16 xs).toArray] w fun e w' => e = .returned (.bool true) ∧ Below w.heap.size w w' := by
  have HL := Aside0.mk hl
  have H16 := Aside0.mk h16
  have HA0 := Aside0.mk (ArrAt.new w 23 .i16 xs)
  have HB0 := Aside0.mk ((Below.refl w.heap.size w).alloc (Nat.le_refl _) (.cells (nums .i16 xs).toArray 23))
  clear hl h16
  obtain ⟨Z, hZ⟩ : ∃ Z, Z = D_range xs := ⟨_, rfl⟩
  have HZZ := Aside0.mk hZ
  clear hZ
  go_enter Try.func9, Try.ntmps9
  go_wp2_with (first | (refine arr_load rfl 23 _ rfl w.heap.size rfl 23 .i16 xs HA0.out _ Try.underlying23 rfl 64 (by kernel_rfl) HL.out ?_))
  refine (laws_toPrint.arr xs HL.out _).mono ?_
  rintro e w1 ⟨rfl, hb⟩
  have HB1 := Aside0.mk (below_step HB0.out hb)
  have HA1 := Aside0.mk (HA0.out.below hb)
  clear hb HB0 HA0
  go_wp2_with fail
  refine (spec_RangeOf.arr xs HL.out H16.out _).mono ?_
  rintro e w2 ⟨rfl, hb⟩
  rw [← HZZ.out]
  have HB2 := Aside0.mk (below_step HB1.out hb)
  have HA2 := Aside0.mk (HA1.out.below hb)
  clear hb HB1 HA1
  go_wp2_with (first | (refine arr_load rfl 23 _ rfl w.heap.size rfl 23 .i16 xs HA2.out _ Try.underlying23 rfl 64 (by kernel_rfl) HL.out ?_))
  refine (laws_toPrint.arr xs HL.out _).mono ?_
  rintro e w3 ⟨rfl, hb⟩
  have HB3 := Aside0.mk (below_step HB2.out hb)
  clear hb HB2 HA2
  go_wp2_with fail
  refine (impl_RangeOf.arr xs HL.out H16.out _).mono ?_
  rintro e w4 ⟨rfl, hb⟩
  rw [← HZZ.out]
  have HB4 := Aside0.mk (below_step HB3.out hb)
  clear hb HB3
  have n1 : (Z.1 != Z.1) = false := by simp
  have n2 : (Z.2.1 != Z.2.1) = false := by simp
  have n3 : (Z.2.2 != Z.2.2) = false := by simp
  go_wp2_with fail
  go_ret
  exact ⟨rfl, HB4.out⟩
end Go.Proofs.Ytcplikffpmihpaa.Q
