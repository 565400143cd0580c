-- Where two prints differ.
import Derived.Test.YticnajjbmdfidaaQx3
import Derived.Test.YticnajjbmdfidaaQx4
import Derived.Test.YticnajjbmdfidaaArrPrint
namespace Go.Proofs.Yticnajjbmdfidaa.Q
open Go.RowKit Go.Proofs.YticnajjbmdfidaaW.PrintWords Go.Proofs.YticnajjbmdfidaaW.PrintLast Go.Proofs.YticnajjbmdfidaaW.PrintMore
attribute [local go_sem] max2_int min2_int max_two min_two max_three min_three max_four min_four
set_option linter.unusedVariables false
set_option linter.unusedSimpArgs false
def D_off (a b : Int) : Int := mx (b - a) (-(b - a))
theorem D_off_spec {a b : Int} (ha : -32768 ≤ a ∧ a ≤ 32767) (hb : -32768 ≤ b ∧ b ≤ 32767) : spec_l03Off.f a b = some (D_off a b) := by
  unfold spec_l03Off.f spec_l01Size.f D_off
  have e1 : wrap64 a = a := by unfold wrap64; omega
  have e2 : wrap64 b = b := by unfold wrap64; omega
  have e3 : wrap64 (b - a) = b - a := by unfold wrap64; omega
  have e4 : wrap64 (-(b - a)) = -(b - a) := by unfold wrap64; omega
  rw [e1, e2, e3, e4]
  unfold mx
  split
  · simp only [Option.bind_some]; congr 1; (try split) <;> omega
  · simp only [Option.bind_some]; congr 1; (try split) <;> omega
theorem D_off_impl {a b : Int} (ha : -32768 ≤ a ∧ a ≤ 32767) (hb : -32768 ≤ b ∧ b ≤ 32767) : impl_size.f (b - a) = some (D_off a b) := by
  unfold impl_size.f D_off
  have e4 : wrap64 (-(b - a)) = -(b - a) := by unfold wrap64; omega
  rw [e4]
def D_diffFrom (xs ys : List Int) (t : Int) : Nat → Int → Int → Int
  | 0, a, _ => a
  | k + 1, a, i => D_diffFrom xs ys t k (if D_off (rd xs i) (rd ys i) > t then bits .or .u64 a (IntKind.u64.wrap (2 ^ i.toNat)) else a) (i + 1)
def D_differ (xs ys : List Int) (t : Int) : Int × Int := if D_dense xs ∧ D_dense ys then (if 0 ≤ t ∧ t ≤ 400 then (D_diffFrom xs ys t 64 0 0, 0) else (0, 2)) else (0, 1)
set_option maxHeartbeats 8000000 in
set_option maxRecDepth 100000 in
theorem impl_DifferIn.arr (xs ys : List Int) (hl : xs.length = 64) (h16 : ∀ x ∈ xs, -32768 ≤ x ∧ x ≤ 32767) (hm : ys.length = 64) (k16 : ∀ x ∈ ys, -32768 ≤ x ∧ x ≤ 32767) (t : Int) (w : World) :
    Calls Try.prog 42 #[.agg (nums .i16 xs).toArray, .agg (nums .i16 ys).toArray, .int .i64 t] w fun e w' => e = .returned (.tuple #[.int .u64 (D_differ xs ys t).1, .int .i64 (D_differ xs ys t).2]) ∧ Below w.heap.size w w' := by
  have HL := Aside0.mk hl
  have H16 := Aside0.mk h16
  have HM := Aside0.mk hm
  have K16 := Aside0.mk k16
  have HA0 := Aside0.mk (arr_new2a w 39 .i16 xs (.cells (nums .i16 ys).toArray 39))
  have HC0 := Aside0.mk (arr_new2b w (.cells (nums .i16 xs).toArray 39) 39 .i16 ys)
  have HB0 := Aside0.mk (arr_below2 w (.cells (nums .i16 xs).toArray 39) (.cells (nums .i16 ys).toArray 39))
  clear hl h16 hm k16
  go_enter Try.func42, Try.ntmps42
  go_wp2_with (first | (refine arr_load rfl 39 _ rfl w.heap.size rfl 39 .i16 xs HA0.out _ Try.underlying39 rfl 64 (by kernel_rfl) HL.out ?_))
  refine (impl_ValidPrint.arr xs HL.out H16.out _).mono ?_
  rintro e w1 ⟨rfl, hb⟩
  have HB1 := Aside0.mk (below_step HB0.out hb)
  have HA1 := Aside0.mk (HA0.out.below hb)
  have HC1 := Aside0.mk (HC0.out.below hb)
  clear hb HB0 HA0 HC0
  by_cases hd : D_dense xs
  · have hdd : decide (D_dense xs) = true := decide_eq_true hd
    have HD := Aside0.mk hd
    clear hd
    go_wp2_with (first | (refine arr_loadG (by rfl) 39 _ rfl (w.heap.size + 1) rfl 39 .i16 ys HC1.out _ Try.underlying39 rfl 64 (by kernel_rfl) HM.out ?_))
    refine (impl_ValidPrint.arr ys HM.out K16.out _).mono ?_
    rintro e w2 ⟨rfl, hb⟩
    have HB2 := Aside0.mk (below_step HB1.out hb)
    have HA2 := Aside0.mk (HA1.out.below hb)
    have HC2 := Aside0.mk (HC1.out.below hb)
    clear hb HB1 HA1 HC1
    by_cases he : D_dense ys
    · have hee : decide (D_dense ys) = true := decide_eq_true he
      have HE := Aside0.mk he
      clear he
      go_wp2_with fail
      refine (impl_isDensity.calls t (decide (0 ≤ t ∧ t ≤ 400)) _ (by unfold impl_isDensity.f impl_within.f; rw [arr_within]; rfl)).mono ?_
      rintro e w3 ⟨rfl, hb⟩
      have HB3 := Aside0.mk (below_step HB2.out hb.below)
      have HA3 := Aside0.mk (HA2.out.below hb.below)
      have HC3 := Aside0.mk (HC2.out.below hb.below)
      clear hb HB2 HA2 HC2
      by_cases ht : 0 ≤ t ∧ t ≤ 400
      · have htt : decide (0 ≤ t ∧ t ≤ 400) = true := decide_eq_true ht
        have HR := Aside0.mk (show D_differ xs ys t = (D_diffFrom xs ys t 64 0 0, 0) by unfold D_differ; rw [if_pos ⟨HD.out, HE.out⟩, if_pos ht])
        clear ht
        go_wp2_with fail
        go_loopg [23, 8] 64 (fun kq v23 v8 w' => ∃ (i a : Int) (W : World), W = w' ∧ v23 = .int .i64 i ∧ v8 = .int .u64 a ∧ Aside0 (0 ≤ i ∧ i + kq = 64) ∧ Aside0 (D_diffFrom xs ys t 64 0 0 = D_diffFrom xs ys t kq a i) ∧
          Aside0 (ArrAt W w.heap.size 39 .i16 xs) ∧ Aside0 (ArrAt W (w.heap.size + 1) 39 .i16 ys) ∧ Aside0 (Below w.heap.size w W))
        case atStart => exact ⟨0, 0, _, rfl, rfl, rfl, ⟨by omega⟩, ⟨rfl⟩, HA3, HC3, HB3⟩
        case round =>
          clear HA3 HC3 HB3
          obtain ⟨i, a, W, rfl, rfl, rfl, HI, HF, HA, HC, HB⟩ := hrel
          cases gk with
          | zero =>
            have hdec : decide (i < 64) = false := decide_eq_false (by have := HI.out; omega)
            have HF1 := Aside0.mk (show D_diffFrom xs ys t 64 0 0 = a from HF.out)
            go_wp2_with fail
            go_ret2
            exact ⟨by rw [HR.out, HF1.out]; rfl, HB.out⟩
          | succ k1 =>
            have h0 := HI.out.1
            have hi : i < 64 := by have := HI.out.2; omega
            have c1 : W.cell? ⟨w.heap.size, i.toNat, none⟩ = some (.int .i16 (rd xs i)) := HA.out.cell h0 (by rw [HL.out]; omega)
            have c2 : W.cell? ⟨w.heap.size + 1, i.toNat, none⟩ = some (.int .i16 (rd ys i)) := HC.out.cell h0 (by rw [HM.out]; omega)
            have HX := Aside0.mk (D_off_impl (arr_rd H16.out h0 (by rw [HL.out]; omega)) (arr_rd K16.out h0 (by rw [HM.out]; omega)))
            have q1 := arr_rd H16.out h0 (by rw [HL.out]; omega)
            have q2 := arr_rd K16.out h0 (by rw [HM.out]; omega)
            have e1 : IntKind.i64.wrap (rd xs i) = rd xs i := by simp [IntKind.wrap, IntKind.bits, IntKind.signed]; omega
            have e2 : IntKind.i64.wrap (rd ys i) = rd ys i := by simp [IntKind.wrap, IntKind.bits, IntKind.signed]; omega
            have e3 : IntKind.i64.wrap (rd ys i - rd xs i) = rd ys i - rd xs i := by simp [IntKind.wrap, IntKind.bits, IntKind.signed]; omega
            have s1 := HA.out.lt
            have s2 := HC.out.lt
            go_wp2_with fail
            go_region_held3 (fun w' => w'.cell? ⟨w.heap.size, i.toNat, none⟩ = some (.int .i16 (rd xs i)) ∧ w'.cell? ⟨w.heap.size + 1, i.toNat, none⟩ = some (.int .i16 (rd ys i)))
              (first | go_keep | (refine ⟨?_, ?_⟩ <;> (rw [hb.cell (by simp; omega)]; first | assumption | (simp; assumption))))
              (first | (go_at_call 86; refine (impl_size.calls (rd ys i - rd xs i) (D_off (rd xs i) (rd ys i)) _ HX.out).mono ?_; rintro e w1 ⟨rfl, hb⟩))
            have HB1 := Aside0.mk (below_step (below_drew1 HB.out) hb)
            have HA1 := Aside0.mk (ArrAt.below (W := W.drew) HA.out hb)
            have HC1 := Aside0.mk (ArrAt.below (W := W.drew) HC.out hb)
            clear hb HB HA HC c1 c2 s1 s2 HX q1 q2 e1 e2 e3
            by_cases ho : t < D_off (rd xs i) (rd ys i)
            · have hoo : decide (t < D_off (rd xs i) (rd ys i)) = true := decide_eq_true ho
              have HF1 := Aside0.mk (show D_diffFrom xs ys t 64 0 0 = D_diffFrom xs ys t k1 (bits .or .u64 a (IntKind.u64.wrap (2 ^ i.toNat))) (i + 1) by rw [HF.out]; simp only [D_diffFrom]; rw [if_pos ho])
              clear HF
              go_wp2_with fail
              go_roundg k1
              case measure => omega
              case rel => exact ⟨i + 1, _, _, rfl, rfl, rfl, ⟨by have := HI.out; omega⟩, HF1, HA1, HC1, HB1⟩
            · have hoo : decide (t < D_off (rd xs i) (rd ys i)) = false := decide_eq_false ho
              have HF1 := Aside0.mk (show D_diffFrom xs ys t 64 0 0 = D_diffFrom xs ys t k1 a (i + 1) by rw [HF.out]; simp only [D_diffFrom]; rw [if_neg ho])
              clear HF
              go_wp2_with fail
              go_roundg k1
              case measure => omega
              case rel => exact ⟨i + 1, _, _, rfl, rfl, rfl, ⟨by have := HI.out; omega⟩, HF1, HA1, HC1, HB1⟩
      · have htt : decide (0 ≤ t ∧ t ≤ 400) = false := decide_eq_false ht
        have HR := Aside0.mk (show D_differ xs ys t = (0, 2) by unfold D_differ; rw [if_pos ⟨HD.out, HE.out⟩, if_neg ht])
        clear ht
        go_wp2_with fail
        go_ret2
        exact ⟨by rw [HR.out]; rfl, HB3.out⟩
    · have hee : decide (D_dense ys) = false := decide_eq_false he
      have HR := Aside0.mk (show D_differ xs ys t = (0, 1) by unfold D_differ; rw [if_neg (fun h => he h.2)])
      clear he
      go_wp2_with fail
      go_ret2
      exact ⟨by rw [HR.out]; rfl, HB2.out⟩
  · have hdd : decide (D_dense xs) = false := decide_eq_false hd
    have HR := Aside0.mk (show D_differ xs ys t = (0, 1) by unfold D_differ; rw [if_neg (fun h => hd h.1)])
    clear hd
    go_wp2_with fail
    go_ret2
    exact ⟨by rw [HR.out]; rfl, HB1.out⟩
theorem differ_keep {w W W1 : World} {xs ys : List Value} (hb : Below W.heap.size W W1) (h1 : W.rangeAt w.heap.size 0 xs) (h2 : W.rangeAt (w.heap.size + 1) 0 ys) (h3 : w.heap.size + 1 < W.heap.size) (h4 : Below w.heap.size w W) :
    W1.rangeAt w.heap.size 0 xs ∧ W1.rangeAt (w.heap.size + 1) 0 ys ∧ w.heap.size + 1 < W1.heap.size ∧ Below w.heap.size w W1 :=
  ⟨range_below hb h1 (by omega), range_below hb h2 h3, Nat.lt_of_lt_of_le h3 hb.size, below_step h4 hb⟩
end Go.Proofs.Yticnajjbmdfidaa.Q
