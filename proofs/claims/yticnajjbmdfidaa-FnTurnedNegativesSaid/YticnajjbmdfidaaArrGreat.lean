-- The greatest difference of two prints.
import Derived.Test.YticnajjbmdfidaaQx3
import Derived.Test.YticnajjbmdfidaaQx4
import Derived.Test.YticnajjbmdfidaaArrDiff
namespace Go.Proofs.Yticnajjbmdfidaa.Q
open Go.RowKit Go.Proofs.YticnajjbmdfidaaW.PrintWords Go.Proofs.YticnajjbmdfidaaW.PrintLast Go.Proofs.YticnajjbmdfidaaW.PrintMore
attribute [local go_sem] max2_int min2_int max_two min_two max_three min_three max_four min_four
set_option linter.unusedVariables false
set_option linter.unusedSimpArgs false
def D_greatFrom (xs ys : List Int) : Nat → Int → Int → Int
  | 0, b, _ => b
  | k + 1, b, i => D_greatFrom xs ys k (if D_off (rd xs i) (rd ys i) > D_off (rd xs b) (rd ys b) then i else b) (i + 1)
def D_great (xs ys : List Int) : Int := D_greatFrom xs ys 63 0 1
theorem D_off_size {m : Int} (h : -100000 ≤ m ∧ m ≤ 100000) : impl_size.f m = some (mx m (-m)) := by
  unfold impl_size.f
  have e4 : wrap64 (-m) = -m := by unfold wrap64; omega
  rw [e4]
set_option maxHeartbeats 8000000 in
set_option maxRecDepth 100000 in
theorem spec_GreatestDifference.arr (xs ys : List Int) (hl : xs.length = 64) (h16 : ∀ x ∈ xs, -32768 ≤ x ∧ x ≤ 32767) (hm : ys.length = 64) (k16 : ∀ x ∈ ys, -32768 ≤ x ∧ x ≤ 32767) (hd : D_dense xs) (he : D_dense ys) (w : World) :
    Calls Try.prog 44 #[.agg (nums .i16 xs).toArray, .agg (nums .i16 ys).toArray] w fun e w' => e = .returned (.tuple #[.int .i64 (D_great xs ys), .int .i64 (rd ys (D_great xs ys) - rd xs (D_great xs ys)), .int .i64 0]) ∧ Below w.heap.size w w' := by
  have hdd : decide (D_dense xs) = true := decide_eq_true hd
  have hee : decide (D_dense ys) = true := decide_eq_true he
  clear hd he
  have HL := Aside0.mk hl
  have H16 := Aside0.mk h16
  have HM := Aside0.mk hm
  have K16 := Aside0.mk k16
  have HA0 := Aside0.mk (arr_new2a w 39 .i16 xs (.cells (nums .i16 ys).toArray 39))
  have HC0 := Aside0.mk (arr_new2b w (.cells (nums .i16 xs).toArray 39) 39 .i16 ys)
  have HB0 := Aside0.mk (arr_below2 w (.cells (nums .i16 xs).toArray 39) (.cells (nums .i16 ys).toArray 39))
  clear hl h16 hm k16
  go_enter Try.func44, Try.ntmps44
  go_wp2_with fail
  refine (spec_l03Print.arr w.heap.size xs HL.out H16.out _ HA0.out).mono ?_
  rintro e w1 ⟨rfl, hb⟩
  have HB1 := Aside0.mk (below_step HB0.out hb)
  have HA1 := Aside0.mk (HA0.out.below hb)
  have HC1 := Aside0.mk (HC0.out.below hb)
  clear hb HB0 HA0 HC0
  go_wp2_with fail
  refine (spec_l03Print.arr (w.heap.size + 1) ys HM.out K16.out _ HC1.out).mono ?_
  rintro e w2 ⟨rfl, hb⟩
  have HB2 := Aside0.mk (below_step HB1.out hb)
  have HA2 := Aside0.mk (HA1.out.below hb)
  have HC2 := Aside0.mk (HC1.out.below hb)
  clear hb HB1 HA1 HC1
  have hgo : True := trivial
  go_wp2_with fail
  go_loopg [8, 7] 63 (fun kq v8 v7 w' => ∃ (i b : Int) (W : World), W = w' ∧ v8 = .int .i64 i ∧ v7 = .int .i64 b ∧ Aside0 (1 ≤ i ∧ i + kq = 64) ∧ Aside0 (0 ≤ b ∧ b < 64) ∧ Aside0 (D_great xs ys = D_greatFrom xs ys kq b i) ∧
    Aside0 (ArrAt W w.heap.size 39 .i16 xs) ∧ Aside0 (ArrAt W (w.heap.size + 1) 39 .i16 ys) ∧ Aside0 (Below w.heap.size w W))
  case atStart => exact ⟨1, 0, _, rfl, rfl, rfl, ⟨by omega⟩, ⟨by omega⟩, ⟨rfl⟩, HA2, HC2, HB2⟩
  case round =>
    clear HA2 HC2 HB2
    obtain ⟨i, b, W, rfl, rfl, rfl, HI, HBB, HF, HA, HC, HB⟩ := hrel
    cases gk with
    | zero =>
      have hdec : decide (i < 64) = false := decide_eq_false (by have := HI.out; omega)
      have HF1 := Aside0.mk (show D_great xs ys = b from HF.out)
      have b0 := HBB.out.1
      have b1 := HBB.out.2
      have c1 : W.cell? ⟨w.heap.size, b.toNat, none⟩ = some (.int .i16 (rd xs b)) := HA.out.cell b0 (by rw [HL.out]; omega)
      have c2 : W.cell? ⟨w.heap.size + 1, b.toNat, none⟩ = some (.int .i16 (rd ys b)) := HC.out.cell b0 (by rw [HM.out]; omega)
      have q1 := arr_rd H16.out b0 (by rw [HL.out]; omega)
      have q2 := arr_rd K16.out b0 (by rw [HM.out]; omega)
      have e1 : IntKind.i64.wrap (rd xs b) = rd xs b := by simp [IntKind.wrap, IntKind.bits, IntKind.signed]; omega
      have e2 : IntKind.i64.wrap (rd ys b) = rd ys b := by simp [IntKind.wrap, IntKind.bits, IntKind.signed]; omega
      have e3 : IntKind.i64.wrap (rd ys b - rd xs b) = rd ys b - rd xs b := by simp [IntKind.wrap, IntKind.bits, IntKind.signed]; omega
      have f3 : wrap64 (rd ys b - rd xs b) = rd ys b - rd xs b := by unfold wrap64; omega
      have f1 : wrap64 (rd xs b) = rd xs b := by unfold wrap64; omega
      have f2 : wrap64 (rd ys b) = rd ys b := by unfold wrap64; omega
      go_wp2_with fail
      go_region_held3 (fun w' => w'.cell? ⟨w.heap.size, b.toNat, none⟩ = some (.int .i16 (rd xs b)) ∧ w'.cell? ⟨w.heap.size + 1, b.toNat, none⟩ = some (.int .i16 (rd ys b))) (first | go_keep) (fail)
      go_wp2_with fail
      go_ret3
      exact ⟨by rw [HF1.out]; rfl, below_drew1 HB.out⟩
    | succ k1 =>
      have h0 : 0 ≤ i := by have := HI.out.1; omega
      have hi : i < 64 := by have := HI.out.2; omega
      have hdec : decide (i < 64) = true := decide_eq_true hi
      have b0 := HBB.out.1
      have b1 := HBB.out.2
      have c1 : W.cell? ⟨w.heap.size, i.toNat, none⟩ = some (.int .i16 (rd xs i)) := HA.out.cell h0 (by rw [HL.out]; omega)
      have c2 : W.cell? ⟨w.heap.size + 1, i.toNat, none⟩ = some (.int .i16 (rd ys i)) := HC.out.cell h0 (by rw [HM.out]; omega)
      have c3 : W.cell? ⟨w.heap.size, b.toNat, none⟩ = some (.int .i16 (rd xs b)) := HA.out.cell b0 (by rw [HL.out]; omega)
      have c4 : W.cell? ⟨w.heap.size + 1, b.toNat, none⟩ = some (.int .i16 (rd ys b)) := HC.out.cell b0 (by rw [HM.out]; omega)
      have HX := Aside0.mk (D_off_spec (arr_rd H16.out h0 (by rw [HL.out]; omega)) (arr_rd K16.out h0 (by rw [HM.out]; omega)))
      have HX2 := Aside0.mk (D_off_spec (arr_rd H16.out b0 (by rw [HL.out]; omega)) (arr_rd K16.out b0 (by rw [HM.out]; omega)))
      have s1 := HA.out.lt
      have s2 := HC.out.lt
      go_wp2_with fail
      go_region_held3 (fun w' => w'.cell? ⟨w.heap.size, i.toNat, none⟩ = some (.int .i16 (rd xs i)) ∧ w'.cell? ⟨w.heap.size + 1, i.toNat, none⟩ = some (.int .i16 (rd ys i)) ∧ w'.cell? ⟨w.heap.size, b.toNat, none⟩ = some (.int .i16 (rd xs b)) ∧ w'.cell? ⟨w.heap.size + 1, b.toNat, none⟩ = some (.int .i16 (rd ys b)))
        (first | go_keep)
        (first | (go_at_call 87; refine (spec_l03Off.calls (rd xs i) (rd ys i) (D_off (rd xs i) (rd ys i)) _ HX.out).mono ?_; rintro e w1 ⟨rfl, n1_, rfl⟩) | (go_at_call 87; refine (spec_l03Off.calls (rd xs b) (rd ys b) (D_off (rd xs b) (rd ys b)) _ HX2.out).mono ?_; rintro e w1 ⟨rfl, n2_, rfl⟩))
      obtain ⟨q_, hq_⟩ : ∃ q, q = 1 + n1_ + n2_ := ⟨_, rfl⟩
      rw [← hq_]
      clear hq_
      have HB1 := Aside0.mk (pw_below_drewN HB.out q_)
      have HA1 := Aside0.mk (show ArrAt (W.drewN q_) w.heap.size 39 .i16 xs from blk_drewN HA.out q_)
      have HC1 := Aside0.mk (show ArrAt (W.drewN q_) (w.heap.size + 1) 39 .i16 ys from blk_drewN HC.out q_)
      clear HB HA HC c1 c2 c3 c4 s1 s2 HX HX2
      by_cases ho : D_off (rd xs b) (rd ys b) < D_off (rd xs i) (rd ys i)
      · have hoo : decide (D_off (rd xs b) (rd ys b) < D_off (rd xs i) (rd ys i)) = true := decide_eq_true ho
        have HF1 := Aside0.mk (show D_great xs ys = D_greatFrom xs ys k1 i (i + 1) by rw [HF.out]; simp only [D_greatFrom]; rw [if_pos ho])
        clear HF
        go_wp2_with fail
        go_roundg k1
        case measure => omega
        case rel => exact ⟨i + 1, i, _, rfl, rfl, rfl, ⟨by have := HI.out; omega⟩, ⟨h0, hi⟩, HF1, HA1, HC1, HB1⟩
      · have hoo : decide (D_off (rd xs b) (rd ys b) < D_off (rd xs i) (rd ys i)) = false := decide_eq_false ho
        have HF1 := Aside0.mk (show D_great xs ys = D_greatFrom xs ys k1 b (i + 1) by rw [HF.out]; simp only [D_greatFrom]; rw [if_neg ho])
        clear HF
        go_wp2_with fail
        go_roundg k1
        case measure => omega
        case rel => exact ⟨i + 1, b, _, rfl, rfl, rfl, ⟨by have := HI.out; omega⟩, HBB, HF1, HA1, HC1, HB1⟩
set_option maxHeartbeats 8000000 in
set_option maxRecDepth 100000 in
theorem impl_GreatestDifference.arr (xs ys : List Int) (hl : xs.length = 64) (h16 : ∀ x ∈ xs, -32768 ≤ x ∧ x ≤ 32767) (hm : ys.length = 64) (k16 : ∀ x ∈ ys, -32768 ≤ x ∧ x ≤ 32767) (hd : D_dense xs) (he : D_dense ys) (w : World) :
    Calls Try.prog 43 #[.agg (nums .i16 xs).toArray, .agg (nums .i16 ys).toArray] w fun e w' => e = .returned (.tuple #[.int .i64 (D_great xs ys), .int .i64 (rd ys (D_great xs ys) - rd xs (D_great xs ys)), .int .i64 0]) ∧ Below w.heap.size w w' := by
  have hdd : decide (D_dense xs) = true := decide_eq_true hd
  have hee : decide (D_dense ys) = true := decide_eq_true he
  clear hd he
  have HL := Aside0.mk hl
  have H16 := Aside0.mk h16
  have HM := Aside0.mk hm
  have K16 := Aside0.mk k16
  have HA0 := Aside0.mk (arr_new2a w 39 .i16 xs (.cells (nums .i16 ys).toArray 39))
  have HC0 := Aside0.mk (arr_new2b w (.cells (nums .i16 xs).toArray 39) 39 .i16 ys)
  have HB0 := Aside0.mk (arr_below2 w (.cells (nums .i16 xs).toArray 39) (.cells (nums .i16 ys).toArray 39))
  clear hl h16 hm k16
  go_enter Try.func43, Try.ntmps43
  go_wp2_with (first | (refine arr_load rfl 39 _ rfl w.heap.size rfl 39 .i16 xs HA0.out _ Try.underlying39 rfl 64 (by kernel_rfl) HL.out ?_))
  refine (impl_ValidPrint.arr xs HL.out H16.out _).mono ?_
  rintro e w1 ⟨rfl, hb⟩
  have HB1 := Aside0.mk (below_step HB0.out hb)
  have HA1 := Aside0.mk (HA0.out.below hb)
  have HC1 := Aside0.mk (HC0.out.below hb)
  clear hb HB0 HA0 HC0
  go_wp2_with (first | (refine arr_loadG (by rfl) 39 _ rfl (w.heap.size + 1) rfl 39 .i16 ys HC1.out _ Try.underlying39 rfl 64 (by kernel_rfl) HM.out ?_))
  refine (impl_ValidPrint.arr ys HM.out K16.out _).mono ?_
  rintro e w2 ⟨rfl, hb⟩
  have HB2 := Aside0.mk (below_step HB1.out hb)
  have HA2 := Aside0.mk (HA1.out.below hb)
  have HC2 := Aside0.mk (HC1.out.below hb)
  clear hb HB1 HA1 HC1
  go_wp2_with fail
  go_loopg [19, 7, 8] 64 (fun kq v19 v7 v8 w' => ∃ (i b m : Int) (W : World), W = w' ∧ v19 = .int .i64 i ∧ v7 = .int .i64 b ∧ v8 = .int .i64 m ∧ Aside0 (0 ≤ i ∧ i + kq = 64) ∧ Aside0 (0 ≤ b ∧ b < 64) ∧ Aside0 (-100000 ≤ m ∧ m ≤ 100000) ∧ Aside0 ((i = 0 ∧ b = 0 ∧ m = 0) ∨ (1 ≤ i ∧ m = rd ys b - rd xs b ∧ D_great xs ys = D_greatFrom xs ys kq b i)) ∧
    Aside0 (ArrAt W w.heap.size 39 .i16 xs) ∧ Aside0 (ArrAt W (w.heap.size + 1) 39 .i16 ys) ∧ Aside0 (Below w.heap.size w W))
  case atStart => exact ⟨0, 0, 0, _, rfl, rfl, rfl, rfl, ⟨by omega⟩, ⟨by omega⟩, ⟨by omega⟩, ⟨.inl ⟨rfl, rfl, rfl⟩⟩, HA2, HC2, HB2⟩
  case round =>
    clear HA2 HC2 HB2
    obtain ⟨i, b, m, W, rfl, rfl, rfl, rfl, HI, HBB, HM2, HF, HA, HC, HB⟩ := hrel
    cases gk with
    | zero =>
      have hdec : decide (i < 64) = false := decide_eq_false (by have := HI.out; omega)
      have HF1 := Aside0.mk (show m = rd ys b - rd xs b ∧ D_great xs ys = b by
        rcases HF.out with h | h
        · have := HI.out; omega
        · exact ⟨h.2.1, h.2.2⟩)
      go_wp2_with fail
      go_ret3
      exact ⟨by rw [HF1.out.2, HF1.out.1]; rfl, HB.out⟩
    | succ k1 =>
      have h0 : 0 ≤ i := HI.out.1
      have hi : i < 64 := by have := HI.out.2; omega
      have hdec : decide (i < 64) = true := decide_eq_true hi
      have c1 : W.cell? ⟨w.heap.size, i.toNat, none⟩ = some (.int .i16 (rd xs i)) := HA.out.cell h0 (by rw [HL.out]; omega)
      have c2 : W.cell? ⟨w.heap.size + 1, i.toNat, none⟩ = some (.int .i16 (rd ys i)) := HC.out.cell h0 (by rw [HM.out]; omega)
      have HX := Aside0.mk (D_off_impl (arr_rd H16.out h0 (by rw [HL.out]; omega)) (arr_rd K16.out h0 (by rw [HM.out]; omega)))
      have HX2 := Aside0.mk (D_off_size (m := m) HM2.out)
      have q1 := arr_rd H16.out h0 (by rw [HL.out]; omega)
      have q2 := arr_rd K16.out h0 (by rw [HM.out]; omega)
      have HQ := Aside0.mk (show -100000 ≤ rd ys i - rd xs i ∧ rd ys i - rd xs i ≤ 100000 by omega)
      have e1 : IntKind.i64.wrap (rd xs i) = rd xs i := by simp [IntKind.wrap, IntKind.bits, IntKind.signed]; omega
      have e2 : IntKind.i64.wrap (rd ys i) = rd ys i := by simp [IntKind.wrap, IntKind.bits, IntKind.signed]; omega
      have e3 : IntKind.i64.wrap (rd ys i - rd xs i) = rd ys i - rd xs i := by simp [IntKind.wrap, IntKind.bits, IntKind.signed]; omega
      have f3 : wrap64 (rd ys i - rd xs i) = rd ys i - rd xs i := by unfold wrap64; omega
      have s1 := HA.out.lt
      have s2 := HC.out.lt
      go_wp2_with fail
      go_region_held3 (fun w' => w'.cell? ⟨w.heap.size, i.toNat, none⟩ = some (.int .i16 (rd xs i)) ∧ w'.cell? ⟨w.heap.size + 1, i.toNat, none⟩ = some (.int .i16 (rd ys i)))
        (first | go_keep) (fail)
      clear c1 c2
      go_wp2_with fail
      refine (impl_size.calls (rd ys i - rd xs i) (D_off (rd xs i) (rd ys i)) _ HX.out).mono ?_
      rintro e W1 ⟨rfl, hb⟩
      have HB1 := Aside0.mk (below_step (below_drew1 HB.out) hb)
      have HA1 := Aside0.mk (ArrAt.below (W := W.drew) HA.out hb)
      have HC1 := Aside0.mk (ArrAt.below (W := W.drew) HC.out hb)
      clear hb HB HA HC s1 s2 HX q1 q2 e1 e2 e3 f3
      go_wp2_with fail
      refine (impl_size.calls m (mx m (-m)) _ HX2.out).mono ?_
      rintro e W2 ⟨rfl, hb⟩
      have HB2 := Aside0.mk (below_step HB1.out hb)
      have HA2 := Aside0.mk (HA1.out.below hb)
      have HC2 := Aside0.mk (HC1.out.below hb)
      clear hb HB1 HA1 HC1 HX2
      by_cases ho : mx m (-m) < D_off (rd xs i) (rd ys i)
      · have hoo : decide (mx m (-m) < D_off (rd xs i) (rd ys i)) = true := decide_eq_true ho
        have HF1 := Aside0.mk (show (i + 1 = 0 ∧ i = 0 ∧ rd ys i - rd xs i = 0) ∨ (1 ≤ i + 1 ∧ rd ys i - rd xs i = rd ys i - rd xs i ∧ D_great xs ys = D_greatFrom xs ys k1 i (i + 1)) by
          refine .inr ⟨by omega, rfl, ?_⟩
          rcases HF.out with ⟨h1, h2, h3⟩ | ⟨h1, h2, h3⟩
          · have : k1 = 63 := by have := HI.out.2; omega
            subst this
            subst h1
            rfl
          · rw [h3]
            simp only [D_greatFrom]
            rw [if_pos (show D_off (rd xs b) (rd ys b) < D_off (rd xs i) (rd ys i) by unfold D_off; rw [← h2]; exact ho)])
        clear HF
        go_wp2_with fail
        go_roundg k1
        case measure => omega
        case rel => exact ⟨i + 1, i, rd ys i - rd xs i, _, rfl, rfl, rfl, rfl, ⟨by have := HI.out; omega⟩, ⟨h0, hi⟩, HQ, ⟨HF1.out.imp id (fun h_ => ⟨h_.1, rfl, h_.2.2⟩)⟩, HA2, HC2, HB2⟩
      · have hoo : decide (mx m (-m) < D_off (rd xs i) (rd ys i)) = false := decide_eq_false ho
        have HF1 := Aside0.mk (show (i + 1 = 0 ∧ b = 0 ∧ m = 0) ∨ (1 ≤ i + 1 ∧ m = rd ys b - rd xs b ∧ D_great xs ys = D_greatFrom xs ys k1 b (i + 1)) by
          refine .inr ⟨by omega, ?_⟩
          rcases HF.out with ⟨h1, h2, h3⟩ | ⟨h1, h2, h3⟩
          · have : k1 = 63 := by have := HI.out.2; omega
            subst this
            subst h1
            subst h2
            subst h3
            refine ⟨?_, rfl⟩
            unfold D_off mx at ho
            split at ho <;> split at ho <;> omega
          · refine ⟨h2, ?_⟩
            rw [h3]
            simp only [D_greatFrom]
            rw [if_neg (show ¬ D_off (rd xs b) (rd ys b) < D_off (rd xs i) (rd ys i) by unfold D_off; rw [← h2]; exact ho)])
        clear HF
        go_wp2_with fail
        go_roundg k1
        case measure => omega
        case rel => exact ⟨i + 1, b, m, _, rfl, rfl, rfl, rfl, ⟨by have := HI.out; omega⟩, HBB, HM2, HF1, HA2, HC2, HB2⟩
end Go.Proofs.Yticnajjbmdfidaa.Q
