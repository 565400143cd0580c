-- Where two prints differ.
import Derived.Test.YtcplikffpmihpaaQx3
import Derived.Test.YtcplikffpmihpaaQx4
import Derived.Test.YtcplikffpmihpaaArrPrint
namespace Go.Proofs.Ytcplikffpmihpaa.Q
open Go.RowKit Go.Proofs.YtcplikffpmihpaaW.PrintWords Go.Proofs.YtcplikffpmihpaaW.PrintLast Go.Proofs.YtcplikffpmihpaaW.PrintMore
attribute [local go_sem] max2_int min2_int max_two min_two max_three min_three max_four min_four
set_option linter.unusedVariables false
set_option linter.unusedSimpArgs false
def D_off (a b : Int) : Int := mx (b - a) (-(b - a))
theorem D_off_spec {a b : Int} (ha : -32768 ≤ a ∧ a ≤ 32767) (hb : -32768 ≤ b ∧ b ≤ 32767) : spec_l03Off.f a b = some (D_off a b) := by
  unfold spec_l03Off.f spec_l01Size.f D_off
  have e1 : wrap64 a = a := by unfold wrap64; omega
  have e2 : wrap64 b = b := by unfold wrap64; omega
  have e3 : wrap64 (b - a) = b - a := by unfold wrap64; omega
  have e4 : wrap64 (-(b - a)) = -(b - a) := by unfold wrap64; omega
  rw [e1, e2, e3, e4]
  unfold mx
  split
  · simp only [Option.bind_some]; congr 1; (try split) <;> omega
  · simp only [Option.bind_some]; congr 1; (try split) <;> omega
theorem D_off_impl {a b : Int} (ha : -32768 ≤ a ∧ a ≤ 32767) (hb : -32768 ≤ b ∧ b ≤ 32767) : impl_size.f (b - a) = some (D_off a b) := by
  unfold impl_size.f D_off
  have e4 : wrap64 (-(b - a)) = -(b - a) := by unfold wrap64; omega
  rw [e4]
def D_diffFrom (xs ys : List Int) (t : Int) : Nat → Int → Int → Int
  | 0, a, _ => a
  | k + 1, a, i => D_diffFrom xs ys t k (if D_off (rd xs i) (rd ys i) > t then bits .or .u64 a (IntKind.u64.wrap (2 ^ i.toNat)) else a) (i + 1)
def D_differ (xs ys : List Int) (t : Int) : Int × Int := if D_dense xs ∧ D_dense ys then (if 0 ≤ t ∧ t ≤ 400 then (D_diffFrom xs ys t 64 0 0, 0) else (0, 2)) else (0, 1)
set_option maxHeartbeats 8000000 in
set_option maxRecDepth 100000 in
theorem spec_DifferIn.arr (xs ys : List Int) (hl : xs.length = 64) (h16 : ∀ x ∈ xs, -32768 ≤ x ∧ x ≤ 32767) (hm : ys.length = 64) (k16 : ∀ x ∈ ys, -32768 ≤ x ∧ x ≤ 32767) (t : Int) (w : World) :
    Calls Try.prog 19 #[.agg (nums .i16 xs).toArray, .agg (nums .i16 ys).toArray, .int .i64 t] w fun e w' => e = .returned (.tuple #[.int .u64 (D_differ xs ys t).1, .int .i64 (D_differ xs ys t).2]) ∧ Below w.heap.size w w' := by
  have HL := Aside0.mk hl
  have H16 := Aside0.mk h16
  have HM := Aside0.mk hm
  have K16 := Aside0.mk k16
  have HA0 := Aside0.mk (arr_new2a w 33 .i16 xs (.cells (nums .i16 ys).toArray 33))
  have HC0 := Aside0.mk (arr_new2b w (.cells (nums .i16 xs).toArray 33) 33 .i16 ys)
  have HB0 := Aside0.mk (arr_below2 w (.cells (nums .i16 xs).toArray 33) (.cells (nums .i16 ys).toArray 33))
  clear hl h16 hm k16
  go_enter Try.func19, Try.ntmps19
  go_wp2_with fail
  refine (spec_l03Print.arr w.heap.size xs HL.out H16.out _ HA0.out).mono ?_
  rintro e w1 ⟨rfl, hb⟩
  have HB1 := Aside0.mk (below_step HB0.out hb)
  have HA1 := Aside0.mk (HA0.out.below hb)
  have HC1 := Aside0.mk (HC0.out.below hb)
  clear hb HB0 HA0 HC0
  by_cases hd : D_dense xs
  · have hdd : decide (D_dense xs) = true := decide_eq_true hd
    have HD := Aside0.mk hd
    clear hd
    go_wp2_with fail
    refine (spec_l03Print.arr (w.heap.size + 1) ys HM.out K16.out _ HC1.out).mono ?_
    rintro e w2 ⟨rfl, hb⟩
    have HB2 := Aside0.mk (below_step HB1.out hb)
    have HA2 := Aside0.mk (HA1.out.below hb)
    have HC2 := Aside0.mk (HC1.out.below hb)
    clear hb HB1 HA1 HC1
    by_cases he : D_dense ys
    · have hee : decide (D_dense ys) = true := decide_eq_true he
      have HE := Aside0.mk he
      clear he
      go_wp2_with fail
      refine (spec_l02Density.calls t (decide (0 ≤ t ∧ t ≤ 400)) _ (by unfold spec_l02Density.f spec_l00In.f; rw [arr_within]; rfl)).mono ?_
      rintro e w3 ⟨rfl, hb⟩
      have HB3 := Aside0.mk (below_step HB2.out hb.below)
      have HA3 := Aside0.mk (HA2.out.below hb.below)
      have HC3 := Aside0.mk (HC2.out.below hb.below)
      clear hb HB2 HA2 HC2
      by_cases ht : 0 ≤ t ∧ t ≤ 400
      · have htt : decide (0 ≤ t ∧ t ≤ 400) = true := decide_eq_true ht
        have HR := Aside0.mk (show D_differ xs ys t = (D_diffFrom xs ys t 64 0 0, 0) by unfold D_differ; rw [if_pos ⟨HD.out, HE.out⟩, if_pos ht])
        clear ht
        go_wp2_with fail
        go_loopg [9, 8] 64 (fun kq v9 v8 w' => ∃ (i a : Int) (W : World), W = w' ∧ v9 = .int .i64 i ∧ v8 = .int .u64 a ∧ Aside0 (0 ≤ i ∧ i + kq = 64) ∧ Aside0 (D_diffFrom xs ys t 64 0 0 = D_diffFrom xs ys t kq a i) ∧
          Aside0 (ArrAt W w.heap.size 33 .i16 xs) ∧ Aside0 (ArrAt W (w.heap.size + 1) 33 .i16 ys) ∧ Aside0 (Below w.heap.size w W))
        case atStart => exact ⟨0, 0, _, rfl, rfl, rfl, ⟨by omega⟩, ⟨rfl⟩, HA3, HC3, HB3⟩
        case round =>
          clear HA3 HC3 HB3
          obtain ⟨i, a, W, rfl, rfl, rfl, HI, HF, HA, HC, HB⟩ := hrel
          cases gk with
          | zero =>
            have hdec : decide (i < 64) = false := decide_eq_false (by have := HI.out; omega)
            have HF1 := Aside0.mk (show D_diffFrom xs ys t 64 0 0 = a from HF.out)
            go_wp2_with fail
            go_ret2
            exact ⟨by rw [HR.out, HF1.out]; rfl, HB.out⟩
          | succ k1 =>
            have h0 := HI.out.1
            have hi : i < 64 := by have := HI.out.2; omega
            have c1 : W.cell? ⟨w.heap.size, i.toNat, none⟩ = some (.int .i16 (rd xs i)) := HA.out.cell h0 (by rw [HL.out]; omega)
            have c2 : W.cell? ⟨w.heap.size + 1, i.toNat, none⟩ = some (.int .i16 (rd ys i)) := HC.out.cell h0 (by rw [HM.out]; omega)
            have HX := Aside0.mk (D_off_spec (arr_rd H16.out h0 (by rw [HL.out]; omega)) (arr_rd K16.out h0 (by rw [HM.out]; omega)))
            have s1 := HA.out.lt
            have s2 := HC.out.lt
            go_wp2_with fail
            go_region_held3 (fun w' => w'.cell? ⟨w.heap.size, i.toNat, none⟩ = some (.int .i16 (rd xs i)) ∧ w'.cell? ⟨w.heap.size + 1, i.toNat, none⟩ = some (.int .i16 (rd ys i)))
              (first | go_keep | (refine ⟨?_, ?_⟩ <;> (rw [hb.below.cell (by simp; omega)]; first | assumption | (simp; assumption))))
              (first | (go_at_call 59; refine (spec_l03Off.calls (rd xs i) (rd ys i) (D_off (rd xs i) (rd ys i)) _ HX.out).mono ?_; rintro e w1 ⟨rfl, hb⟩))
            have HB1 := Aside0.mk (below_step (below_drew1 HB.out) hb.below)
            have HA1 := Aside0.mk (ArrAt.below (W := W.drew) HA.out hb.below)
            have HC1 := Aside0.mk (ArrAt.below (W := W.drew) HC.out hb.below)
            clear hb HB HA HC c1 c2 s1 s2 HX
            by_cases ho : t < D_off (rd xs i) (rd ys i)
            · have hoo : decide (t < D_off (rd xs i) (rd ys i)) = true := decide_eq_true ho
              have HF1 := Aside0.mk (show D_diffFrom xs ys t 64 0 0 = D_diffFrom xs ys t k1 (bits .or .u64 a (IntKind.u64.wrap (2 ^ i.toNat))) (i + 1) by rw [HF.out]; simp only [D_diffFrom]; rw [if_pos ho])
              clear HF
              go_wp2_with fail
              go_roundg k1
              case measure => omega
              case rel => exact ⟨i + 1, _, _, rfl, rfl, rfl, ⟨by have := HI.out; omega⟩, HF1, HA1, HC1, HB1⟩
            · have hoo : decide (t < D_off (rd xs i) (rd ys i)) = false := decide_eq_false ho
              have HF1 := Aside0.mk (show D_diffFrom xs ys t 64 0 0 = D_diffFrom xs ys t k1 a (i + 1) by rw [HF.out]; simp only [D_diffFrom]; rw [if_neg ho])
              clear HF
              go_wp2_with fail
              go_roundg k1
              case measure => omega
              case rel => exact ⟨i + 1, _, _, rfl, rfl, rfl, ⟨by have := HI.out; omega⟩, HF1, HA1, HC1, HB1⟩
      · have htt : decide (0 ≤ t ∧ t ≤ 400) = false := decide_eq_false ht
        have HR := Aside0.mk (show D_differ xs ys t = (0, 2) by unfold D_differ; rw [if_pos ⟨HD.out, HE.out⟩, if_neg ht])
        clear ht
        go_wp2_with fail
        go_ret2
        exact ⟨by rw [HR.out]; rfl, HB3.out⟩
    · have hee : decide (D_dense ys) = false := decide_eq_false he
      have HR := Aside0.mk (show D_differ xs ys t = (0, 1) by unfold D_differ; rw [if_neg (fun h => he h.2)])
      clear he
      go_wp2_with fail
      go_ret2
      exact ⟨by rw [HR.out]; rfl, HB2.out⟩
  · have hdd : decide (D_dense xs) = false := decide_eq_false hd
    have HR := Aside0.mk (show D_differ xs ys t = (0, 1) by unfold D_differ; rw [if_neg (fun h => hd h.1)])
    clear hd
    go_wp2_with fail
    go_ret2
    exact ⟨by rw [HR.out]; rfl, HB1.out⟩
set_option maxHeartbeats 8000000 in
set_option maxRecDepth 100000 in
theorem impl_DifferIn.arr (xs ys : List Int) (hl : xs.length = 64) (h16 : ∀ x ∈ xs, -32768 ≤ x ∧ x ≤ 32767) (hm : ys.length = 64) (k16 : ∀ x ∈ ys, -32768 ≤ x ∧ x ≤ 32767) (t : Int) (w : World) :
    Calls Try.prog 21 #[.agg (nums .i16 xs).toArray, .agg (nums .i16 ys).toArray, .int .i64 t] w fun e w' => e = .returned (.tuple #[.int .u64 (D_differ xs ys t).1, .int .i64 (D_differ xs ys t).2]) ∧ Below w.heap.size w w' := by
  have HL := Aside0.mk hl
  have H16 := Aside0.mk h16
  have HM := Aside0.mk hm
  have K16 := Aside0.mk k16
  have HA0 := Aside0.mk (arr_new2a w 33 .i16 xs (.cells (nums .i16 ys).toArray 33))
  have HC0 := Aside0.mk (arr_new2b w (.cells (nums .i16 xs).toArray 33) 33 .i16 ys)
  have HB0 := Aside0.mk (arr_below2 w (.cells (nums .i16 xs).toArray 33) (.cells (nums .i16 ys).toArray 33))
  clear hl h16 hm k16
  go_enter Try.func21, Try.ntmps21
  go_wp2_with (first | (refine arr_load rfl 33 _ rfl w.heap.size rfl 33 .i16 xs HA0.out _ Try.underlying33 rfl 64 (by kernel_rfl) HL.out ?_))
  refine (impl_ValidPrint.arr xs HL.out H16.out _).mono ?_
  rintro e w1 ⟨rfl, hb⟩
  have HB1 := Aside0.mk (below_step HB0.out hb)
  have HA1 := Aside0.mk (HA0.out.below hb)
  have HC1 := Aside0.mk (HC0.out.below hb)
  clear hb HB0 HA0 HC0
  by_cases hd : D_dense xs
  · have hdd : decide (D_dense xs) = true := decide_eq_true hd
    have HD := Aside0.mk hd
    clear hd
    go_wp2_with (first | (refine arr_loadG (by rfl) 33 _ rfl (w.heap.size + 1) rfl 33 .i16 ys HC1.out _ Try.underlying33 rfl 64 (by kernel_rfl) HM.out ?_))
    refine (impl_ValidPrint.arr ys HM.out K16.out _).mono ?_
    rintro e w2 ⟨rfl, hb⟩
    have HB2 := Aside0.mk (below_step HB1.out hb)
    have HA2 := Aside0.mk (HA1.out.below hb)
    have HC2 := Aside0.mk (HC1.out.below hb)
    clear hb HB1 HA1 HC1
    by_cases he : D_dense ys
    · have hee : decide (D_dense ys) = true := decide_eq_true he
      have HE := Aside0.mk he
      clear he
      go_wp2_with fail
      refine (impl_isDensity.calls t (decide (0 ≤ t ∧ t ≤ 400)) _ (by unfold impl_isDensity.f impl_within.f; rw [arr_within]; rfl)).mono ?_
      rintro e w3 ⟨rfl, hb⟩
      have HB3 := Aside0.mk (below_step HB2.out hb.below)
      have HA3 := Aside0.mk (HA2.out.below hb.below)
      have HC3 := Aside0.mk (HC2.out.below hb.below)
      clear hb HB2 HA2 HC2
      by_cases ht : 0 ≤ t ∧ t ≤ 400
      · have htt : decide (0 ≤ t ∧ t ≤ 400) = true := decide_eq_true ht
        have HR := Aside0.mk (show D_differ xs ys t = (D_diffFrom xs ys t 64 0 0, 0) by unfold D_differ; rw [if_pos ⟨HD.out, HE.out⟩, if_pos ht])
        clear ht
        go_wp2_with fail
        go_loopg [23, 8] 64 (fun kq v23 v8 w' => ∃ (i a : Int) (W : World), W = w' ∧ v23 = .int .i64 i ∧ v8 = .int .u64 a ∧ Aside0 (0 ≤ i ∧ i + kq = 64) ∧ Aside0 (D_diffFrom xs ys t 64 0 0 = D_diffFrom xs ys t kq a i) ∧
          Aside0 (ArrAt W w.heap.size 33 .i16 xs) ∧ Aside0 (ArrAt W (w.heap.size + 1) 33 .i16 ys) ∧ Aside0 (Below w.heap.size w W))
        case atStart => exact ⟨0, 0, _, rfl, rfl, rfl, ⟨by omega⟩, ⟨rfl⟩, HA3, HC3, HB3⟩
        case round =>
          clear HA3 HC3 HB3
          obtain ⟨i, a, W, rfl, rfl, rfl, HI, HF, HA, HC, HB⟩ := hrel
          cases gk with
          | zero =>
            have hdec : decide (i < 64) = false := decide_eq_false (by have := HI.out; omega)
            have HF1 := Aside0.mk (show D_diffFrom xs ys t 64 0 0 = a from HF.out)
            go_wp2_with fail
            go_ret2
            exact ⟨by rw [HR.out, HF1.out]; rfl, HB.out⟩
          | succ k1 =>
            have h0 := HI.out.1
            have hi : i < 64 := by have := HI.out.2; omega
            have c1 : W.cell? ⟨w.heap.size, i.toNat, none⟩ = some (.int .i16 (rd xs i)) := HA.out.cell h0 (by rw [HL.out]; omega)
            have c2 : W.cell? ⟨w.heap.size + 1, i.toNat, none⟩ = some (.int .i16 (rd ys i)) := HC.out.cell h0 (by rw [HM.out]; omega)
            have HX := Aside0.mk (D_off_impl (arr_rd H16.out h0 (by rw [HL.out]; omega)) (arr_rd K16.out h0 (by rw [HM.out]; omega)))
            have q1 := arr_rd H16.out h0 (by rw [HL.out]; omega)
            have q2 := arr_rd K16.out h0 (by rw [HM.out]; omega)
            have e1 : IntKind.i64.wrap (rd xs i) = rd xs i := by simp [IntKind.wrap, IntKind.bits, IntKind.signed]; omega
            have e2 : IntKind.i64.wrap (rd ys i) = rd ys i := by simp [IntKind.wrap, IntKind.bits, IntKind.signed]; omega
            have e3 : IntKind.i64.wrap (rd ys i - rd xs i) = rd ys i - rd xs i := by simp [IntKind.wrap, IntKind.bits, IntKind.signed]; omega
            have s1 := HA.out.lt
            have s2 := HC.out.lt
            go_wp2_with fail
            go_region_held3 (fun w' => w'.cell? ⟨w.heap.size, i.toNat, none⟩ = some (.int .i16 (rd xs i)) ∧ w'.cell? ⟨w.heap.size + 1, i.toNat, none⟩ = some (.int .i16 (rd ys i)))
              (first | go_keep | (refine ⟨?_, ?_⟩ <;> (rw [hb.cell (by simp; omega)]; first | assumption | (simp; assumption))))
              (first | (go_at_call 62; refine (impl_size.calls (rd ys i - rd xs i) (D_off (rd xs i) (rd ys i)) _ HX.out).mono ?_; rintro e w1 ⟨rfl, hb⟩))
            have HB1 := Aside0.mk (below_step (below_drew1 HB.out) hb)
            have HA1 := Aside0.mk (ArrAt.below (W := W.drew) HA.out hb)
            have HC1 := Aside0.mk (ArrAt.below (W := W.drew) HC.out hb)
            clear hb HB HA HC c1 c2 s1 s2 HX q1 q2 e1 e2 e3
            by_cases ho : t < D_off (rd xs i) (rd ys i)
            · have hoo : decide (t < D_off (rd xs i) (rd ys i)) = true := decide_eq_true ho
              have HF1 := Aside0.mk (show D_diffFrom xs ys t 64 0 0 = D_diffFrom xs ys t k1 (bits .or .u64 a (IntKind.u64.wrap (2 ^ i.toNat))) (i + 1) by rw [HF.out]; simp only [D_diffFrom]; rw [if_pos ho])
              clear HF
              go_wp2_with fail
              go_roundg k1
              case measure => omega
              case rel => exact ⟨i + 1, _, _, rfl, rfl, rfl, ⟨by have := HI.out; omega⟩, HF1, HA1, HC1, HB1⟩
            · have hoo : decide (t < D_off (rd xs i) (rd ys i)) = false := decide_eq_false ho
              have HF1 := Aside0.mk (show D_diffFrom xs ys t 64 0 0 = D_diffFrom xs ys t k1 a (i + 1) by rw [HF.out]; simp only [D_diffFrom]; rw [if_neg ho])
              clear HF
              go_wp2_with fail
              go_roundg k1
              case measure => omega
              case rel => exact ⟨i + 1, _, _, rfl, rfl, rfl, ⟨by have := HI.out; omega⟩, HF1, HA1, HC1, HB1⟩
      · have htt : decide (0 ≤ t ∧ t ≤ 400) = false := decide_eq_false ht
        have HR := Aside0.mk (show D_differ xs ys t = (0, 2) by unfold D_differ; rw [if_pos ⟨HD.out, HE.out⟩, if_neg ht])
        clear ht
        go_wp2_with fail
        go_ret2
        exact ⟨by rw [HR.out]; rfl, HB3.out⟩
    · have hee : decide (D_dense ys) = false := decide_eq_false he
      have HR := Aside0.mk (show D_differ xs ys t = (0, 1) by unfold D_differ; rw [if_neg (fun h => he h.2)])
      clear he
      go_wp2_with fail
      go_ret2
      exact ⟨by rw [HR.out]; rfl, HB2.out⟩
  · have hdd : decide (D_dense xs) = false := decide_eq_false hd
    have HR := Aside0.mk (show D_differ xs ys t = (0, 1) by unfold D_differ; rw [if_neg (fun h => hd h.1)])
    clear hd
    go_wp2_with fail
    go_ret2
    exact ⟨by rw [HR.out]; rfl, HB1.out⟩
theorem differ_keep {w W W1 : World} {xs ys : List Value} (hb : Below W.heap.size W W1) (h1 : W.rangeAt w.heap.size 0 xs) (h2 : W.rangeAt (w.heap.size + 1) 0 ys) (h3 : w.heap.size + 1 < W.heap.size) (h4 : Below w.heap.size w W) :
    W1.rangeAt w.heap.size 0 xs ∧ W1.rangeAt (w.heap.size + 1) 0 ys ∧ w.heap.size + 1 < W1.heap.size ∧ Below w.heap.size w W1 :=
  ⟨range_below hb h1 (by omega), range_below hb h2 h3, Nat.lt_of_lt_of_le h3 hb.size, below_step h4 hb⟩
set_option maxHeartbeats 8000000 in
set_option maxRecDepth 100000 in
theorem laws_FnExactDifferIn.arr (w : World) (xs : List Int) (hl : xs.length = 64) (h16 : ∀ x ∈ xs, -32768 ≤ x ∧ x ≤ 32767) (ys : List Int) (hm : ys.length = 64) (k16 : ∀ x ∈ ys, -32768 ≤ x ∧ x ≤ 32767) (t : Int) (t0 : -9223372036854775808 ≤ t) (t1 : t ≤ 9223372036854775807) :
    Calls Try.prog 4 #[.agg (nums .i16 xs).toArray, .agg (nums .i16 ys).toArray, .int .i64 t] w fun e w' => e = .returned (.bool true) ∧ Below w.heap.size w w' := by
  have HL := Aside0.mk hl
  have H16 := Aside0.mk h16
  have HM := Aside0.mk hm
  have K16 := Aside0.mk k16
  have hu := Try.underlying23
  have hi1 : (Try.prog.info? 23).map (·.size) = some (nums .i16 xs).length := by rw [nums_length, hl]; kernel_rfl
  have hi2 : (Try.prog.info? 23).map (·.size) = some (nums .i16 ys).length := by rw [nums_length, hm]; kernel_rfl
  have r1 := (arr_new2a w 23 .i16 xs (.cells (nums .i16 ys).toArray 23)).range
  have r2 := (arr_new2b w (.cells (nums .i16 xs).toArray 23) 23 .i16 ys).range
  have s1 : w.heap.size + 1 < ((w.alloc (.cells (nums .i16 xs).toArray 23)).alloc (.cells (nums .i16 ys).toArray 23)).heap.size := by simp
  have b1 := arr_below2 w (.cells (nums .i16 xs).toArray 23) (.cells (nums .i16 ys).toArray 23)
  have b2 := below_drew1 b1
  obtain ⟨Z, hZ⟩ : ∃ Z, Z = D_differ xs ys t := ⟨_, rfl⟩
  have HZ := Aside0.mk hZ
  clear hl h16 hm k16 hZ
  go_enter Try.func4, Try.ntmps4
  go_wp2_with fail
  refine wp_region_held_drew (S := (fun w' => w'.rangeAt w.heap.size 0 (nums .i16 xs) ∧ w'.rangeAt (w.heap.size + 1) 0 (nums .i16 ys) ∧ w.heap.size + 1 < w'.heap.size ∧ Below w.heap.size w w')) (by kernel_rfl) ⟨(World.rangeAt_drew _ _ _ _).2 r1, (World.rangeAt_drew _ _ _ _).2 r2, s1, b2⟩ (fun hHeld => ?_)
  refine wpAnyH_take (i := 0) (v := .agg (nums .i16 xs).toArray) rfl (by kernel_rfl) (by kernel_rfl) (by kernel_rfl) (fun _ _ _ h => h) (yieldsIf_load_mid (by rfl) _ _ rfl _ _ rfl _ _ (fun w' h => h.1) hu rfl hi1) (by assumption) ?_
  try simp only [List.getElem_toArray, List.getElem_cons_succ, List.getElem_cons_zero, Act.put, List.setIfInBounds_toArray, List.set_cons_zero, List.set_cons_succ]
  refine wpAnyH_take (i := 2) (v := .agg (nums .i16 ys).toArray) rfl (by kernel_rfl) (by kernel_rfl) (by kernel_rfl) (fun _ _ _ h => h) (yieldsIf_load_mid (by rfl) _ _ rfl _ _ rfl _ _ (fun w' h => h.2.1) hu rfl hi2) (by assumption) ?_
  try simp only [List.getElem_toArray, List.getElem_cons_succ, List.getElem_cons_zero, Act.put, List.setIfInBounds_toArray, List.set_cons_zero, List.set_cons_succ]
  refine wpAnyH_take (i := 4) (v := ?_) rfl (by kernel_rfl) (by kernel_rfl) (by kernel_rfl) (fun _ _ _ h => h) (Or.inl ⟨by rfl, ?_⟩) (by assumption) ?_
  rotate_left
  · intro w hSw
    go_simp
    with_reducible rfl
  try simp only [List.getElem_toArray, List.getElem_cons_succ, List.getElem_cons_zero, Act.put, List.setIfInBounds_toArray, List.set_cons_zero, List.set_cons_succ]
  refine wpAnyH_ready (rs := [1]) (by kernel_rfl) (by simp) ?_
  refine AllReadyH.cons rfl (fun K hK => ?_) AllReadyH.nil
  obtain ⟨q1, q2, q3, q4⟩ := hHeld
  go_simp
  refine (laws_toPrint.arr xs HL.out _).mono ?_
  rintro e w1 ⟨rfl, hb⟩
  go_wp2_with fail
  refine hK.out _ _ (differ_keep hb q1 q2 q3 q4) (fun hHeld => ?_)
  clear hK K hb q1 q2 q3 q4
  try simp only [List.getElem_toArray, List.getElem_cons_succ, List.getElem_cons_zero, Act.put, List.setIfInBounds_toArray, List.set_cons_zero, List.set_cons_succ]
  refine wpAnyH_ready (rs := [3]) (by kernel_rfl) (by simp) ?_
  refine AllReadyH.cons rfl (fun K hK => ?_) AllReadyH.nil
  obtain ⟨q1, q2, q3, q4⟩ := hHeld
  go_simp
  refine (laws_toPrint.arr ys HM.out _).mono ?_
  rintro e w1 ⟨rfl, hb⟩
  go_wp2_with fail
  refine hK.out _ _ (differ_keep hb q1 q2 q3 q4) (fun hHeld => ?_)
  clear hK K hb q1 q2 q3 q4
  try simp only [List.getElem_toArray, List.getElem_cons_succ, List.getElem_cons_zero, Act.put, List.setIfInBounds_toArray, List.set_cons_zero, List.set_cons_succ]
  refine wpAnyH_ready (rs := [5]) (by kernel_rfl) (by simp) ?_
  refine AllReadyH.cons rfl (fun K hK => ?_) AllReadyH.nil
  obtain ⟨q1, q2, q3, q4⟩ := hHeld
  go_simp
  refine (spec_DifferIn.arr xs ys HL.out H16.out HM.out K16.out t _).mono ?_
  rintro e w1 ⟨rfl, hb⟩
  go_wp2_with fail
  refine hK.out _ _ (differ_keep hb q1 q2 q3 q4) (fun hHeld => ?_)
  clear hK K hb q1 q2 q3 q4
  try simp only [List.getElem_toArray, List.getElem_cons_succ, List.getElem_cons_zero, Act.put, List.setIfInBounds_toArray, List.set_cons_zero, List.set_cons_succ]
  refine wpAnyH_take (i := 6) (v := ?_) rfl (by kernel_rfl) (by kernel_rfl) (by kernel_rfl) (fun _ _ _ h => h) (Or.inl ⟨by rfl, ?_⟩) (by assumption) ?_
  rotate_left
  · intro w hSw
    go_simp
    with_reducible rfl
  try simp only [List.getElem_toArray, List.getElem_cons_succ, List.getElem_cons_zero, Act.put, List.setIfInBounds_toArray, List.set_cons_zero, List.set_cons_succ]
  refine wpAnyH_take (i := 7) (v := ?_) rfl (by kernel_rfl) (by kernel_rfl) (by kernel_rfl) (fun _ _ _ h => h) (Or.inl ⟨by rfl, ?_⟩) (by assumption) ?_
  rotate_left
  · intro w hSw
    go_simp
    with_reducible rfl
  try simp only [List.getElem_toArray, List.getElem_cons_succ, List.getElem_cons_zero, Act.put, List.setIfInBounds_toArray, List.set_cons_zero, List.set_cons_succ]
  refine wpAnyH_take (i := 8) (v := ?_) rfl (by kernel_rfl) (by kernel_rfl) (by kernel_rfl) (fun _ _ _ h => h) (Or.inl ⟨by rfl, ?_⟩) (by assumption) ?_
  rotate_left
  · intro w hSw
    go_simp
    with_reducible rfl
  try simp only [List.getElem_toArray, List.getElem_cons_succ, List.getElem_cons_zero, Act.put, List.setIfInBounds_toArray, List.set_cons_zero, List.set_cons_succ]
  refine wpAnyH_take (i := 9) (v := ?_) rfl (by kernel_rfl) (by kernel_rfl) (by kernel_rfl) (fun _ _ _ h => h) (Or.inl ⟨by rfl, ?_⟩) (by assumption) ?_
  rotate_left
  · intro w hSw
    go_simp
    with_reducible rfl
  try simp only [List.getElem_toArray, List.getElem_cons_succ, List.getElem_cons_zero, Act.put, List.setIfInBounds_toArray, List.set_cons_zero, List.set_cons_succ]
  refine wpAnyH_take (i := 10) (v := ?_) rfl (by kernel_rfl) (by kernel_rfl) (by kernel_rfl) (fun _ _ _ h => h) (Or.inl ⟨by rfl, ?_⟩) (by assumption) ?_
  rotate_left
  · intro w hSw
    go_simp
    with_reducible rfl
  try simp only [List.getElem_toArray, List.getElem_cons_succ, List.getElem_cons_zero, Act.put, List.setIfInBounds_toArray, List.set_cons_zero, List.set_cons_succ]
  refine wpAnyH_done (by kernel_rfl) ?_ _
  clear r1 r2 s1 b1 b2
  rw [← HZ.out]
  obtain ⟨q1, q2, q3, q4⟩ := hHeld
  go_wp2_with fail
  have q5 := below_drew1 q4
  refine wp_region_held_drew (S := (fun w' => w'.rangeAt w.heap.size 0 (nums .i16 xs) ∧ w'.rangeAt (w.heap.size + 1) 0 (nums .i16 ys) ∧ w.heap.size + 1 < w'.heap.size ∧ Below w.heap.size w w')) (by kernel_rfl) ⟨(World.rangeAt_drew _ _ _ _).2 q1, (World.rangeAt_drew _ _ _ _).2 q2, q3, q5⟩ (fun hHeld => ?_)
  refine wpAnyH_take (i := 0) (v := .agg (nums .i16 xs).toArray) rfl (by kernel_rfl) (by kernel_rfl) (by kernel_rfl) (fun _ _ _ h => h) (yieldsIf_load_mid (by rfl) _ _ rfl _ _ rfl _ _ (fun w' h => h.1) hu rfl hi1) (by assumption) ?_
  try simp only [List.getElem_toArray, List.getElem_cons_succ, List.getElem_cons_zero, Act.put, List.setIfInBounds_toArray, List.set_cons_zero, List.set_cons_succ]
  refine wpAnyH_take (i := 2) (v := .agg (nums .i16 ys).toArray) rfl (by kernel_rfl) (by kernel_rfl) (by kernel_rfl) (fun _ _ _ h => h) (yieldsIf_load_mid (by rfl) _ _ rfl _ _ rfl _ _ (fun w' h => h.2.1) hu rfl hi2) (by assumption) ?_
  try simp only [List.getElem_toArray, List.getElem_cons_succ, List.getElem_cons_zero, Act.put, List.setIfInBounds_toArray, List.set_cons_zero, List.set_cons_succ]
  refine wpAnyH_take (i := 4) (v := ?_) rfl (by kernel_rfl) (by kernel_rfl) (by kernel_rfl) (fun _ _ _ h => h) (Or.inl ⟨by rfl, ?_⟩) (by assumption) ?_
  rotate_left
  · intro w hSw
    go_simp
    with_reducible rfl
  try simp only [List.getElem_toArray, List.getElem_cons_succ, List.getElem_cons_zero, Act.put, List.setIfInBounds_toArray, List.set_cons_zero, List.set_cons_succ]
  refine wpAnyH_ready (rs := [1]) (by kernel_rfl) (by simp) ?_
  refine AllReadyH.cons rfl (fun K hK => ?_) AllReadyH.nil
  obtain ⟨q1, q2, q3, q4⟩ := hHeld
  go_simp
  refine (laws_toPrint.arr xs HL.out _).mono ?_
  rintro e w1 ⟨rfl, hb⟩
  go_wp2_with fail
  refine hK.out _ _ (differ_keep hb q1 q2 q3 q4) (fun hHeld => ?_)
  clear hK K hb q1 q2 q3 q4
  try simp only [List.getElem_toArray, List.getElem_cons_succ, List.getElem_cons_zero, Act.put, List.setIfInBounds_toArray, List.set_cons_zero, List.set_cons_succ]
  refine wpAnyH_ready (rs := [3]) (by kernel_rfl) (by simp) ?_
  refine AllReadyH.cons rfl (fun K hK => ?_) AllReadyH.nil
  obtain ⟨q1, q2, q3, q4⟩ := hHeld
  go_simp
  refine (laws_toPrint.arr ys HM.out _).mono ?_
  rintro e w1 ⟨rfl, hb⟩
  go_wp2_with fail
  refine hK.out _ _ (differ_keep hb q1 q2 q3 q4) (fun hHeld => ?_)
  clear hK K hb q1 q2 q3 q4
  try simp only [List.getElem_toArray, List.getElem_cons_succ, List.getElem_cons_zero, Act.put, List.setIfInBounds_toArray, List.set_cons_zero, List.set_cons_succ]
  refine wpAnyH_ready (rs := [5]) (by kernel_rfl) (by simp) ?_
  refine AllReadyH.cons rfl (fun K hK => ?_) AllReadyH.nil
  obtain ⟨q1, q2, q3, q4⟩ := hHeld
  go_simp
  refine (impl_DifferIn.arr xs ys HL.out H16.out HM.out K16.out t _).mono ?_
  rintro e w1 ⟨rfl, hb⟩
  go_wp2_with fail
  refine hK.out _ _ (differ_keep hb q1 q2 q3 q4) (fun hHeld => ?_)
  clear hK K hb q1 q2 q3 q4
  try simp only [List.getElem_toArray, List.getElem_cons_succ, List.getElem_cons_zero, Act.put, List.setIfInBounds_toArray, List.set_cons_zero, List.set_cons_succ]
  refine wpAnyH_take (i := 6) (v := ?_) rfl (by kernel_rfl) (by kernel_rfl) (by kernel_rfl) (fun _ _ _ h => h) (Or.inl ⟨by rfl, ?_⟩) (by assumption) ?_
  rotate_left
  · intro w hSw
    go_simp
    with_reducible rfl
  try simp only [List.getElem_toArray, List.getElem_cons_succ, List.getElem_cons_zero, Act.put, List.setIfInBounds_toArray, List.set_cons_zero, List.set_cons_succ]
  refine wpAnyH_take (i := 7) (v := ?_) rfl (by kernel_rfl) (by kernel_rfl) (by kernel_rfl) (fun _ _ _ h => h) (Or.inl ⟨by rfl, ?_⟩) (by assumption) ?_
  rotate_left
  · intro w hSw
    go_simp
    with_reducible rfl
  try simp only [List.getElem_toArray, List.getElem_cons_succ, List.getElem_cons_zero, Act.put, List.setIfInBounds_toArray, List.set_cons_zero, List.set_cons_succ]
  refine wpAnyH_take (i := 8) (v := ?_) rfl (by kernel_rfl) (by kernel_rfl) (by kernel_rfl) (fun _ _ _ h => h) (Or.inl ⟨by rfl, ?_⟩) (by assumption) ?_
  rotate_left
  · intro w hSw
    go_simp
    with_reducible rfl
  try simp only [List.getElem_toArray, List.getElem_cons_succ, List.getElem_cons_zero, Act.put, List.setIfInBounds_toArray, List.set_cons_zero, List.set_cons_succ]
  refine wpAnyH_take (i := 9) (v := ?_) rfl (by kernel_rfl) (by kernel_rfl) (by kernel_rfl) (fun _ _ _ h => h) (Or.inl ⟨by rfl, ?_⟩) (by assumption) ?_
  rotate_left
  · intro w hSw
    go_simp
    with_reducible rfl
  try simp only [List.getElem_toArray, List.getElem_cons_succ, List.getElem_cons_zero, Act.put, List.setIfInBounds_toArray, List.set_cons_zero, List.set_cons_succ]
  refine wpAnyH_take (i := 10) (v := ?_) rfl (by kernel_rfl) (by kernel_rfl) (by kernel_rfl) (fun _ _ _ h => h) (Or.inl ⟨by rfl, ?_⟩) (by assumption) ?_
  rotate_left
  · intro w hSw
    go_simp
    with_reducible rfl
  try simp only [List.getElem_toArray, List.getElem_cons_succ, List.getElem_cons_zero, Act.put, List.setIfInBounds_toArray, List.set_cons_zero, List.set_cons_succ]
  refine wpAnyH_done (by kernel_rfl) ?_ _
  obtain ⟨r1, r2, r3, r4⟩ := hHeld
  have HB := Aside0.mk r4
  clear r1 r2 r3 r4 q1 q2 q3 q4 q5
  rw [← HZ.out]
  have n1 : (Z.1 != Z.1) = false := by simp
  have n2 : (Z.2 != Z.2) = false := by simp
  go_wp2_with fail
  go_ret
  exact ⟨rfl, HB.out⟩
end Go.Proofs.Ytcplikffpmihpaa.Q
