-- The light of the 64 cells.
import Derived.Test.YticnajjbmdfidaaQx3
import Derived.Test.YticnajjbmdfidaaQx7
import Derived.Test.YticnajjbmdfidaaArrPL
import Derived.Test.YticnajjbmdfidaaArrTimes
namespace Go.Proofs.Yticnajjbmdfidaa.Q
open Go.RowKit Go.Proofs.Yticnajjbmdfidaa.PL Go.Proofs.YticnajjbmdfidaaW.PrintWords Go.Proofs.YticnajjbmdfidaaW.PrintLast Go.Proofs.YticnajjbmdfidaaW.PrintMore
set_option linter.unusedVariables false
set_option linter.unusedSimpArgs false
theorem szI64 (w : World) : (sizeOf 2).run Try.prog w = .ok 1 w := by kernel_rfl
theorem agI64 (w : World) : (isAgg 2).run Try.prog w = .ok false w := by kernel_rfl
def D_light (l : List S76) : List Int := (D_times l).map D_in
theorem D_lightLen (l : List S76) : (D_light l).length = 64 := by simp [D_light, D_timesLen]
theorem D_light_rd (l : List S76) {i : Int} (h0 : 0 ≤ i) (h1 : i < 64) : rd (D_light l) i = D_in (rd (D_times l) i) := by
  have h := D_timesLen l
  unfold rd D_light
  rw [List.getD_eq_getElem?_getD, List.getD_eq_getElem?_getD, List.getElem?_map, List.getElem?_eq_getElem (by omega)]; rfl
theorem rd_setNe {xs : List Int} {i j x : Int} (hi : 0 ≤ i) (hj : 0 ≤ j) (h : i ≠ j) : rd (xs.set i.toNat x) j = rd xs j := by
  unfold rd
  rw [List.getD_eq_getElem?_getD, List.getD_eq_getElem?_getD, List.getElem?_set_ne (by omega)]
set_option maxHeartbeats 8000000 in
set_option maxRecDepth 100000 in
theorem spec_l03Light.arr (A0 : Option Addr) (c0 : Nat) (l : List S76) (w : World) (hr : Kd.C k76 w A0 l.length l) (hc : l.length ≤ c0) (hth : ∀ x ∈ l, 0 ≤ x.f1 ∧ x.f1 ≤ 36) :
    Calls Try.prog 59 #[.slice A0 l.length c0] w fun e w' => e = .returned (.agg (nums .i64 (D_light l)).toArray) ∧ Below w.heap.size w w' := by
  have HR := Aside0.mk hr
  have HC := Aside0.mk hc
  have HT := Aside0.mk hth
  have HZ0 := Aside0.mk (ArrAt.new w 24 .i64 (zer 64))
  have HB0 := Aside0.mk ((Below.refl w.heap.size w).alloc (Nat.le_refl _) (.cells (nums .i64 (zer 64)).toArray 24))
  clear hr hc hth
  go_enter Try.func59, Try.ntmps59
  go_wp2_with fail
  refine (spec_l03Times.arr A0 c0 l _ (Kd.C_below HR.out HB0.out) HC.out HT.out).mono ?_
  rintro e w1 ⟨rfl, hb⟩
  obtain ⟨T, hT⟩ : ∃ T, T = D_times l := ⟨_, rfl⟩
  have HL := Aside0.mk (show T.length = 64 by rw [hT]; exact D_timesLen l)
  have HQ := Aside0.mk (fun (i : Int) (h0 : 0 ≤ i) (h1 : i < 64) => show rd (D_light l) i = D_in (rd T i) by rw [hT]; exact D_light_rd l h0 h1)
  rw [← hT]
  have HB1 := Aside0.mk (below_step HB0.out hb)
  have HZ1 := Aside0.mk (HZ0.out.below hb)
  have HG := Aside0.mk (show w.heap.size < w1.heap.size from HZ1.out.lt)
  have HO1 := Aside0.mk (ArrAt.new w1 24 .i64 (zer 64))
  clear hb HB0 HZ0 hT
  go_wp2_with (first | (refine arr_store rfl 24 _ _ rfl w1.heap.size .i64 T rfl rfl 24 (zer 64) HO1.out 64 (by kernel_rfl) (zer_len 64) HL.out ?_))
  go_loopg [4] 64 (fun kq v4 w' => ∃ (i : Int) (ys : List Int) (W : World), W = w' ∧ v4 = .int .i64 i ∧ Aside0 (0 ≤ i ∧ i + kq = 64) ∧ Aside0 (ys.length = 64 ∧ ys.take i.toNat = (D_light l).take i.toNat ∧ ∀ j : Int, i ≤ j → rd ys j = rd T j) ∧
      Aside0 (ArrAt W w.heap.size 24 .i64 (zer 64)) ∧ Aside0 (ArrAt W w1.heap.size 24 .i64 ys) ∧ Aside0 (Below w.heap.size w W))
  case atStart => exact ⟨0, T, _, rfl, rfl, ⟨by omega⟩, ⟨HL.out, by simp, fun _ _ => rfl⟩, ⟨(HZ1.out.alloc _).rowOther (by have := HG.out; omega) _⟩, ⟨HO1.out.row⟩, ⟨below_row (below_alloc HB1.out _) (by have := HG.out; omega) _⟩⟩
  case round =>
    clear HZ1 HO1 HB1
    obtain ⟨i, ys, W, rfl, rfl, HI, HY, HZ, HO, HB⟩ := hrel
    cases gk with
    | zero =>
      have hdec : decide (i < 64) = false := decide_eq_false (by have := HI.out; omega)
      have HL2 := Aside0.mk HY.out.1
      have hys : ys = D_light l := by
        have := HY.out.2.1
        rw [List.take_of_length_le (by have := HI.out; have := HY.out.1; omega), List.take_of_length_le (by have := HI.out; have := D_lightLen l; omega)] at this
        exact this
      have HYS := Aside0.mk hys
      clear hys
      go_wp2_with (first | (refine arr_load rfl 24 _ rfl w1.heap.size rfl 24 .i64 ys HO.out _ Try.underlying24 rfl 64 (by kernel_rfl) HL2.out ?_) | (refine arr_store rfl 24 _ _ rfl w.heap.size .i64 ys rfl rfl 24 (zer 64) HZ.out 64 (by kernel_rfl) (zer_len 64) HL2.out ?_))
      refine bodyPost_ret (results_cell_row rfl _ _ w.heap.size 24 (nums .i64 ys).toArray (0, 0) _ rfl HZ.out.row Try.underlying24 rfl (by rw [show (Array.size (nums .i64 ys).toArray) = 64 by simp [nums, HL2.out]]; kernel_rfl)) rfl ?_
      exact ⟨by rw [← HYS.out], below_row HB.out (Nat.le_refl _) _⟩
    | succ k1 =>
      have h0 := HI.out.1
      have hi : i < 64 := by have := HI.out.2; omega
      have c1 : W.cell? ⟨w1.heap.size, i.toNat, none⟩ = some (.int .i64 (rd T i)) := by rw [← HY.out.2.2 i (Int.le_refl _)]; exact HO.out.cell h0 (by rw [HY.out.1]; omega)
      go_wp2_with fail
      refine (spec_l01In.calls 38 _ _ _ (L_specIn (rd T i) (Nat.le_refl _))).mono ?_
      rintro e w2 ⟨rfl, hb⟩
      have HZ2 := Aside0.mk (HZ.out.below hb)
      have HO2 := Aside0.mk (HO.out.below hb)
      have HB2 := Aside0.mk (below_step HB.out hb)
      clear hb HZ HO HB c1
      have c2 : w2.cell? ⟨w1.heap.size, i.toNat, none⟩ = some (.int .i64 (rd ys i)) := HO2.out.cell h0 (by rw [HY.out.1]; omega)
      have f2 := HO2.out.frozen i.toNat
      go_wp2_with fail
      go_roundg k1
      case measure => omega
      case rel =>
        refine ⟨i + 1, ys.set i.toNat (D_in (rd T i)), _, rfl, rfl, ⟨by have := HI.out; omega⟩, ⟨by simpa using HY.out.1, ?_, fun j hj => ?_⟩, ⟨HZ2.out.other (by have := HG.out; omega) _ _⟩, ⟨HO2.out.set i _⟩, ⟨below_set HB2.out (by have := HG.out; omega)⟩⟩
        · rw [← HQ.out i h0 hi]; exact arr_take_set h0 (by rw [HY.out.1]; omega) (by rw [D_lightLen]; omega) HY.out.2.1
        · rw [rd_setNe h0 (by omega) (by omega)]; exact HY.out.2.2 j (by omega)
set_option maxHeartbeats 8000000 in
set_option maxRecDepth 100000 in
theorem impl_lightOn.arr (A0 : Option Addr) (c0 : Nat) (l : List S76) (w : World) (hr : Kd.C k76 w A0 l.length l) (hc : l.length ≤ c0) (hth : ∀ x ∈ l, 0 ≤ x.f1 ∧ x.f1 ≤ 36) :
    Calls Try.prog 60 #[.slice A0 l.length c0] w fun e w' => e = .returned (.agg (nums .i64 (D_light l)).toArray) ∧ Below w.heap.size w w' := by
  have HR := Aside0.mk hr
  have HC := Aside0.mk hc
  have HT := Aside0.mk hth
  have HZ0 := Aside0.mk (ArrAt.new w 24 .i64 (zer 64))
  have HO1 := Aside0.mk (ArrAt.newAt (W := w.alloc (.cells (nums .i64 (zer 64)).toArray 24)) (g := w.heap.size + 1) (by simp) 24 .i64 (zer 64))
  have HO2 := Aside0.mk (HO1.out.row (ys := zer 64))
  have HZ2 := Aside0.mk (((HZ0.out.alloc (.cells (nums .i64 (zer 64)).toArray 24))).rowOther (c := w.heap.size + 1) (by omega) (nums .i64 (zer 64)).toArray)
  have HB2 := Aside0.mk (below_row (below_alloc ((Below.refl w.heap.size w).alloc (Nat.le_refl _) (.cells (nums .i64 (zer 64)).toArray 24)) (.cells (nums .i64 (zer 64)).toArray 24)) (by omega : w.heap.size ≤ w.heap.size + 1) (nums .i64 (zer 64)).toArray)
  clear hr hc hth
  go_enter Try.func60, Try.ntmps60
  go_wp2_with (first | (refine arr_store rfl 24 _ _ rfl (w.heap.size + 1) .i64 (zer 64) rfl rfl 24 (zer 64) HO1.out 64 (by kernel_rfl) (zer_len 64) (zer_len 64) ?_))
  refine (impl_timesOn.arr A0 c0 l _ (Kd.C_below HR.out HB2.out) HC.out HT.out).mono ?_
  rintro e w1 ⟨rfl, hb⟩
  obtain ⟨T, hT⟩ : ∃ T, T = D_times l := ⟨_, rfl⟩
  have HL := Aside0.mk (show T.length = 64 by rw [hT]; exact D_timesLen l)
  have HQ := Aside0.mk (fun (i : Int) (h0 : 0 ≤ i) (h1 : i < 64) => show rd (D_light l) i = D_in (rd T i) by rw [hT]; exact D_light_rd l h0 h1)
  rw [← hT]
  have HB3 := Aside0.mk (below_step HB2.out hb)
  have HZ3 := Aside0.mk (HZ2.out.below hb)
  have HO3 := Aside0.mk (HO2.out.below hb)
  clear hb HZ0 HO1 HO2 HZ2 HB2 hT
  go_wp2_with fail
  go_loopg [10] 64 (fun kq v10 w' => ∃ (i : Int) (ys : List Int) (W : World), W = w' ∧ v10 = .int .i64 i ∧ Aside0 (0 ≤ i ∧ i + kq = 64) ∧ Aside0 (ys.length = 64 ∧ ys.take i.toNat = (D_light l).take i.toNat) ∧
      Aside0 (ArrAt W w.heap.size 24 .i64 (zer 64)) ∧ Aside0 (ArrAt W (w.heap.size + 1) 24 .i64 ys) ∧ Aside0 (Below w.heap.size w W))
  case atStart => exact ⟨0, zer 64, _, rfl, rfl, ⟨by omega⟩, ⟨zer_len 64, by simp⟩, HZ3, HO3, HB3⟩
  case round =>
    clear HZ3 HO3 HB3
    obtain ⟨i, ys, W, rfl, rfl, HI, HY, HZ, HO, HB⟩ := hrel
    cases gk with
    | zero =>
      have hdec : decide (i < 64) = false := decide_eq_false (by have := HI.out; omega)
      have HL2 := Aside0.mk HY.out.1
      have hys : ys = D_light l := by
        have := HY.out.2
        rw [List.take_of_length_le (by have := HI.out; have := HY.out.1; omega), List.take_of_length_le (by have := HI.out; have := D_lightLen l; omega)] at this
        exact this
      have HYS := Aside0.mk hys
      clear hys
      go_wp2_with (first | (refine arr_load rfl 24 _ rfl (w.heap.size + 1) rfl 24 .i64 ys HO.out _ Try.underlying24 rfl 64 (by kernel_rfl) HL2.out ?_) | (refine arr_store rfl 24 _ _ rfl w.heap.size .i64 ys rfl rfl 24 (zer 64) HZ.out 64 (by kernel_rfl) (zer_len 64) HL2.out ?_))
      refine bodyPost_ret (results_cell_row rfl _ _ w.heap.size 24 (nums .i64 ys).toArray (0, 0) _ rfl HZ.out.row Try.underlying24 rfl (by rw [show (Array.size (nums .i64 ys).toArray) = 64 by simp [nums, HL2.out]]; kernel_rfl)) rfl ?_
      exact ⟨by rw [← HYS.out], below_row HB.out (Nat.le_refl _) _⟩
    | succ k1 =>
      have h0 := HI.out.1
      have hi : i < 64 := by have := HI.out.2; omega
      have hx := arr_index (k := .i64) (xs := T) Try.underlying24 szI64 agI64 h0 (by rw [HL.out]; omega) HL.out
      have c2 : W.cell? ⟨w.heap.size + 1, i.toNat, none⟩ = some (.int .i64 (rd ys i)) := HO.out.cell h0 (by rw [HY.out.1]; omega)
      have f2 := HO.out.frozen i.toNat
      obtain ⟨s, hs⟩ : ∃ s, s = rd T i := ⟨_, rfl⟩
      rw [← hs] at hx
      have HS := Aside0.mk hs
      clear hs
      go_wp2_with fail
      clear hx c2 f2
      go_loopg [6] 37 (fun kj v6 w' => ∃ (k : Int) (V : World), V = w' ∧ v6 = .int .i64 k ∧ Aside0 (0 ≤ k ∧ k + kj = 37) ∧ Aside0 (0 < k → tmv (k - 1) ≤ s) ∧
        Aside0 (ArrAt V w.heap.size 24 .i64 (zer 64)) ∧ Aside0 (ArrAt V (w.heap.size + 1) 24 .i64 (ys.set i.toNat (k - 1))) ∧ Aside0 (Below w.heap.size w V))
      case atStart => exact ⟨0, _, rfl, rfl, ⟨by omega⟩, ⟨fun h => absurd h (by omega)⟩, ⟨HZ.out.other (by omega) _ _⟩, ⟨HO.out.set i _⟩, ⟨below_set HB.out (by omega)⟩⟩
      case round =>
        clear HZ HO HB
        obtain ⟨k, V, rfl, rfl, HK, HP, HZ, HO, HB⟩ := hrel
        have hk0 := HK.out.1
        have hk1 : k ≤ 37 := by have := HK.out.2; omega
        go_wp2_with fail
        refine (impl_areThirds.calls _ _ _ (L_areThirds k)).mono ?_
        rintro e w2 ⟨rfl, hb⟩
        have HZ2 := Aside0.mk (HZ.out.below hb.below)
        have HO2 := Aside0.mk (HO.out.below hb.below)
        have HB2 := Aside0.mk (below_step HB.out hb.below)
        clear hb HZ HO HB
        have HE := Aside0.mk (show wrap64 (i + 1) = i + 1 by unfold wrap64; omega)
        by_cases hk : k ≤ 36
        · have hd : decide (0 ≤ k ∧ k ≤ 36) = true := decide_eq_true ⟨hk0, hk⟩
          go_wp2_with fail
          refine (impl_timeOf.calls _ _ _ (L_timeOf ⟨hk0, hk⟩)).mono ?_
          rintro e w3 ⟨rfl, hb⟩
          have HZ3 := Aside0.mk (HZ2.out.below hb.below)
          have HO3 := Aside0.mk (HO2.out.below hb.below)
          have HB3 := Aside0.mk (below_step HB2.out hb.below)
          clear hb HZ2 HO2 HB2
          by_cases ht : tmv k ≤ s
          · have htt : decide (tmv k ≤ s) = true := decide_eq_true ht
            have HTT := Aside0.mk ht
            clear ht
            cases gk with
            | zero => exact absurd hk (by have := HK.out; omega)
            | succ kj =>
              have c3 : w3.cell? ⟨w.heap.size + 1, i.toNat, none⟩ = some (.int .i64 (rd (ys.set i.toNat (k - 1)) i)) := HO3.out.cell h0 (by simp [HY.out.1]; omega)
              have f3 := HO3.out.frozen i.toNat
              go_wp2_with fail
              go_roundg kj
              case measure => omega
              case rel =>
                refine ⟨k + 1, _, rfl, rfl, ⟨by have := HK.out; omega⟩, ⟨fun _ => by rw [show k + 1 - 1 = k by omega]; exact HTT.out⟩, ⟨HZ3.out.other (by omega) _ _⟩, ⟨?_⟩, ⟨below_set HB3.out (by omega)⟩⟩
                have := HO3.out.set i k
                rw [List.set_set] at this
                rw [show k + 1 - 1 = k by omega]; exact this
          · have htt : decide (tmv k ≤ s) = false := decide_eq_false ht
            have HU := Aside0.mk (show k - 1 = D_in s from L_inUnique (by omega) (fun h => HP.out (by omega)) (fun _ => by rw [show k - 1 + 1 = k by omega]; omega))
            clear ht
            go_wp2_with fail
            go_roundg k1
            case measure => omega
            case rel =>
              refine ⟨i + 1, ys.set i.toNat (k - 1), _, rfl, rfl, ⟨by have := HI.out; omega⟩, ⟨by simpa using HY.out.1, ?_⟩, HZ3, HO3, HB3⟩
              rw [HU.out, HS.out, ← HQ.out i h0 hi]; exact arr_take_set h0 (by rw [HY.out.1]; omega) (by rw [D_lightLen]; omega) HY.out.2
        · have hd : decide (0 ≤ k ∧ k ≤ 36) = false := decide_eq_false (fun h => hk h.2)
          have HU := Aside0.mk (show k - 1 = D_in s from L_inUnique (by omega) (fun h => HP.out (by omega)) (fun h => by omega))
          go_wp2_with fail
          go_roundg k1
          case measure => omega
          case rel =>
            refine ⟨i + 1, ys.set i.toNat (k - 1), _, rfl, rfl, ⟨by have := HI.out; omega⟩, ⟨by simpa using HY.out.1, ?_⟩, HZ2, HO2, HB2⟩
            rw [HU.out, HS.out, ← HQ.out i h0 hi]; exact arr_take_set h0 (by rw [HY.out.1]; omega) (by rw [D_lightLen]; omega) HY.out.2
end Go.Proofs.Yticnajjbmdfidaa.Q
