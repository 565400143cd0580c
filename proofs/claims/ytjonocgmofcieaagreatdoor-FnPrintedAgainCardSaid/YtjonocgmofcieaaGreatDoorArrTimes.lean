-- The times of steps on the 64 cells.
import Derived.Test.YtjonocgmofcieaaGreatDoorQx5
import Derived.Test.YtjonocgmofcieaaGreatDoorQx7
import Derived.Test.YtjonocgmofcieaaGreatDoorQx10
import Derived.Test.YtjonocgmofcieaaGreatDoorArrKit
import Derived.Test.YtjonocgmofcieaaGreatDoorArrPL
namespace Go.Proofs.YtjonocgmofcieaaGreatDoor.Q
open Go.RowKit Go.Proofs.YtjonocgmofcieaaGreatDoorW.PrintWords Go.Proofs.YtjonocgmofcieaaGreatDoorW.PrintLast Go.Proofs.YtjonocgmofcieaaGreatDoorW.PrintMore
set_option linter.unusedVariables false
set_option linter.unusedSimpArgs false
/-- one step's time t laid on the cells that mask m has, from cell k on, d cells -/
def D_innerFrom (m t : Int) : Nat → List Int → Int → List Int
  | 0, ys, _ => ys
  | d + 1, ys, k => D_innerFrom m t d (if D_bit m k then ys.set k.toNat (wrap64 (rd ys k + t)) else ys) (k + 1)
theorem D_inner_len (m t : Int) (d : Nat) : ∀ (ys : List Int) (k : Int), (D_innerFrom m t d ys k).length = ys.length := by
  induction d with
  | zero => intro ys k; rfl
  | succ d ih =>
    intro ys k
    unfold D_innerFrom
    rw [ih]
    split <;> simp
def D_timesFrom : List S55 → List Int → List Int
  | [], ys => ys
  | x :: r, ys => D_timesFrom r (D_innerFrom x.f0 (tmv x.f1) 64 ys 0)
theorem D_times_len : ∀ (l : List S55) (ys : List Int), (D_timesFrom l ys).length = ys.length
  | [], _ => rfl
  | x :: r, ys => by unfold D_timesFrom; rw [D_times_len r, D_inner_len]
def D_times (l : List S55) : List Int := D_timesFrom l (zer 64)
theorem D_timesLen (l : List S55) : (D_times l).length = 64 := by unfold D_times; rw [D_times_len]; exact zer_len 64
theorem D_times_drop {l : List S55} {i : Int} (h0 : 0 ≤ i) (h : i < l.length) (ys : List Int) :
    D_timesFrom (l.drop i.toNat) ys = D_timesFrom (l.drop (i + 1).toNat) (D_innerFrom (rd_T55 l i).f0 (tmv (rd_T55 l i).f1) 64 ys 0) := by
  have hdr : l.drop i.toNat = rd_T55 l i :: l.drop (i + 1).toNat := by
    rw [List.drop_eq_getElem_cons (by omega), show (i + 1).toNat = i.toNat + 1 by omega]
    congr 1
    unfold rd_T55
    rw [List.getD_eq_getElem?_getD, List.getElem?_eq_getElem (by omega)]; rfl
  rw [hdr]; rfl
theorem rd_T55_mem {l : List S55} {i : Int} (h0 : 0 ≤ i) (h : i < l.length) : rd_T55 l i ∈ l := by
  rw [show rd_T55 l i = l[i.toNat]'(by omega) by unfold rd_T55; rw [List.getD_eq_getElem?_getD, List.getElem?_eq_getElem (by omega)]; rfl]
  exact List.getElem_mem _
theorem D_spt : ∀ n : Nat, n < 37 → spec_l01Time.f n = some (tmv n) := by decide +kernel
theorem D_specTime {k : Int} (h : 0 ≤ k ∧ k ≤ 36) : spec_l01Time.f k = some (tmv k) := by
  obtain ⟨n, rfl⟩ : ∃ n : Nat, k = n := ⟨k.toNat, by omega⟩
  exact D_spt n (by omega)
theorem D_implTime {k : Int} (h : 0 ≤ k ∧ k ≤ 36) : impl_timeOf.f k = some (tmv k) := by
  unfold impl_timeOf.f; rw [if_pos h.1, if_pos h.2]
theorem D_has {m k : Int} (h0 : 0 ≤ k) (h1 : k < 64) : impl_has.f m k = some (decide (D_bit m k)) := by
  have e := shr_small (k := .u64) (x := m) (y := k) rfl (by simp [IntKind.bits]; omega)
  unfold impl_has.f D_bit
  rw [if_pos h0, ← e]
  by_cases h : Go.bits .and .u64 (m / 2 ^ k.toNat) 1 = 1
  · rw [decide_eq_true h]; simp [h]
  · rw [decide_eq_false h]; simp [h]
set_option maxHeartbeats 8000000 in
set_option maxRecDepth 100000 in
theorem spec_l03Times.arr (A0 : Option Addr) (c0 : Nat) (l : List S55) (w : World) (hr : Kd.C k55 w A0 l.length l) (hc : l.length ≤ c0) (hth : ∀ x ∈ l, 0 ≤ x.f1 ∧ x.f1 ≤ 36) :
    Calls Tryz.prog 48 #[.slice A0 l.length c0] w fun e w' => e = .returned (.agg (nums .i64 (D_times l)).toArray) ∧ Below w.heap.size w w' := by
  have HR := Aside0.mk hr
  have HC := Aside0.mk hc
  have HT := Aside0.mk hth
  have HZ0 := Aside0.mk (ArrAt.new w 40 .i64 (zer 64))
  have HB0 := Aside0.mk ((Below.refl w.heap.size w).alloc (Nat.le_refl _) (.cells (nums .i64 (zer 64)).toArray 40))
  have HO1 := Aside0.mk (ArrAt.newAt (W := w.alloc (.cells (nums .i64 (zer 64)).toArray 40)) (g := w.heap.size + 1) (by simp) 40 .i64 (zer 64))
  clear hr hc hth
  go_enter Tryz.func48, Tryz.ntmps48
  go_wp2_with (first | (refine arr_store rfl 40 _ _ rfl (w.heap.size + 1) .i64 (zer 64) rfl rfl 40 (zer 64) HO1.out 64 (by kernel_rfl) (zer_len 64) (zer_len 64) ?_))
  go_loopg [4] l.length (fun kq v4 w' => ∃ (i : Int) (ys : List Int) (W : World), W = w' ∧ v4 = .int .i64 i ∧ Aside0 (0 ≤ i ∧ i ≤ l.length ∧ (kq : Int) = l.length - i) ∧ Aside0 (ys.length = 64 ∧ D_timesFrom l (zer 64) = D_timesFrom (l.drop i.toNat) ys) ∧
      Aside0 (ArrAt W w.heap.size 40 .i64 (zer 64)) ∧ Aside0 (ArrAt W (w.heap.size + 1) 40 .i64 ys) ∧ Aside0 (Below w.heap.size w W))
  case atStart => exact ⟨0, zer 64, _, rfl, rfl, ⟨by omega⟩, ⟨zer_len 64, rfl⟩, ⟨(HZ0.out.alloc _).rowOther (by omega) _⟩, ⟨HO1.out.row⟩, ⟨below_row (below_alloc HB0.out _) (by omega) _⟩⟩
  case round =>
    clear HZ0 HO1 HB0
    obtain ⟨i, ys, W, rfl, rfl, HI, HY, HZ, HO, HB⟩ := hrel
    cases gk with
    | zero =>
      have hge : (l.length : Int) ≤ i := by have := HI.out; omega
      have HL2 := Aside0.mk HY.out.1
      have HYS := Aside0.mk (show D_times l = ys by unfold D_times; rw [HY.out.2, List.drop_eq_nil_of_le (by omega)]; rfl)
      go_wp2_with (first | (refine arr_load rfl 40 _ rfl (w.heap.size + 1) rfl 40 .i64 ys HO.out _ Tryz.underlying40 rfl 64 (by kernel_rfl) HL2.out ?_) | (refine arr_store rfl 40 _ _ rfl w.heap.size .i64 ys rfl rfl 40 (zer 64) HZ.out 64 (by kernel_rfl) (zer_len 64) HL2.out ?_))
      refine bodyPost_ret (results_cell_row rfl _ _ w.heap.size 40 (nums .i64 ys).toArray (0, 0) _ rfl HZ.out.row Tryz.underlying40 rfl (by rw [show (Array.size (nums .i64 ys).toArray) = 64 by simp [nums, HL2.out]]; kernel_rfl)) rfl ?_
      exact ⟨by rw [HYS.out], below_row HB.out (Nat.le_refl _) _⟩
    | succ k1 =>
      have hlt : i < (l.length : Int) := by have := HI.out; omega
      have h0 := HI.out.1
      have HTX := Aside0.mk (D_specTime (HT.out _ (rd_T55_mem h0 hlt)))
      have HDR := Aside0.mk (D_times_drop h0 hlt ys)
      have HWR := Aside0.mk (show IntKind.i64.wrap (rd_T55 l i).f1 = (rd_T55 l i).f1 by have := HT.out _ (rd_T55_mem h0 hlt); simp [IntKind.wrap, IntKind.bits, IntKind.signed]; omega)
      go_wp2_with fail
      go_loopg [5] 64 (fun kj v5 w' => ∃ (j : Int) (zs : List Int) (V : World), V = w' ∧ v5 = .int .i64 j ∧ Aside0 (0 ≤ j ∧ j + kj = 64) ∧ Aside0 (zs.length = 64 ∧ D_innerFrom (rd_T55 l i).f0 (tmv (rd_T55 l i).f1) 64 ys 0 = D_innerFrom (rd_T55 l i).f0 (tmv (rd_T55 l i).f1) kj zs j) ∧
        Aside0 (ArrAt V w.heap.size 40 .i64 (zer 64)) ∧ Aside0 (ArrAt V (w.heap.size + 1) 40 .i64 zs) ∧ Aside0 (Below w.heap.size w V))
      case atStart => exact ⟨0, ys, _, rfl, rfl, ⟨by omega⟩, ⟨HY.out.1, rfl⟩, HZ, HO, HB⟩
      case round =>
        clear HZ HO HB
        obtain ⟨j, zs, V, rfl, rfl, HJ, HK, HZ, HO, HB⟩ := hrel
        cases gk with
        | zero =>
          have hdec : decide (j < 64) = false := decide_eq_false (by have := HJ.out; omega)
          have hge : 64 ≤ j := by have := HJ.out; omega
          have hmx := Kd.C_max HR.out
          have e9 : wrap64 (i + 1) = i + 1 := by unfold wrap64; omega
          have E9 := Aside0.mk e9
          clear e9
          go_wp2_with fail
          go_roundg k1
          case measure => omega
          case rel =>
            refine ⟨i + 1, zs, _, rfl, rfl, ⟨by have := HI.out; omega⟩, ⟨HK.out.1, ?_⟩, HZ, HO, HB⟩
            rw [HY.out.2, HDR.out, HK.out.2]; rfl
        | succ j1 =>
          have j0 := HJ.out.1
          have hj : j < 64 := by have := HJ.out; omega
          obtain ⟨ad, e0, hcell0, hcell1⟩ := at_T55 (Kd.C_below HR.out HB.out) i h0 hlt
          cases e0
          have hju : IntKind.u64.wrap j = j := by simp [IntKind.wrap, IntKind.bits, IntKind.signed]; omega
          by_cases hbit : D_bit (rd_T55 l i).f0 j
          · have hb1 : (Go.bits .and .u64 ((rd_T55 l i).f0 / 2 ^ j.toNat) 1 == 1) = true := by unfold D_bit at hbit; simp [hbit]
            have c1 : V.cell? ⟨w.heap.size + 1, j.toNat, none⟩ = some (.int .i64 (rd zs j)) := HO.out.cell j0 (by rw [HK.out.1]; omega)
            have f1 := HO.out.frozen j.toNat
            have HBT := Aside0.mk hbit
            clear hbit
            go_wp2_with fail
            have hs1 : V.drew.cell? ⟨(ad.add (i.toNat * 2)).block, (ad.add (i.toNat * 2)).off + 1, none⟩ = some (.int .i8 (rd_T55 l i).f1) := by simpa using hcell1
            obtain ⟨ad2, e2, _, hcw⟩ := at_T55 HR.out i h0 hlt
            cases e2
            have HCW := Aside0.mk (fun (W' : World) (h : Below w.heap.size w W') => (h.cell (p := ⟨(ad.add (i.toNat * 2)).block, (ad.add (i.toNat * 2)).off + 1, none⟩) (World.block_lt_of_cell? w ⟨(ad.add (i.toNat * 2)).block, (ad.add (i.toNat * 2)).off + 1, none⟩ hcw)).trans hcw)
            clear hcw
            refine wp_region_held_drew (S := fun w' => w'.cell? ⟨(ad.add (i.toNat * 2)).block, (ad.add (i.toNat * 2)).off + 1, none⟩ = some (.int .i8 (rd_T55 l i).f1)) (by kernel_rfl) hs1 (fun hHeld => ?_)
            have hwr := HWR.out
            refine wpAnyH_take (i := 0) (v := ?_) rfl (by kernel_rfl) (by kernel_rfl) (by kernel_rfl) (fun _ _ _ h => h) (Or.inl ⟨by rfl, ?_⟩) (by assumption) ?_
            rotate_left
            · intro w hSw
              go_simp
              with_reducible rfl
            try simp only [List.getElem_toArray, List.getElem_cons_succ, List.getElem_cons_zero, Act.put, List.setIfInBounds_toArray, List.set_cons_zero, List.set_cons_succ]
            refine wpAnyH_take (i := 1) (v := ?_) rfl (by kernel_rfl) (by kernel_rfl) (by kernel_rfl) (fun _ _ _ h => h) (Or.inl ⟨by rfl, ?_⟩) (by assumption) ?_
            rotate_left
            · intro w hSw
              go_simp
              with_reducible rfl
            try simp only [List.getElem_toArray, List.getElem_cons_succ, List.getElem_cons_zero, Act.put, List.setIfInBounds_toArray, List.set_cons_zero, List.set_cons_succ]
            refine wpAnyH_take (i := 3) (v := ?_) rfl (by kernel_rfl) (by kernel_rfl) (by kernel_rfl) (fun _ _ _ h => h) (Or.inl ⟨by rfl, ?_⟩) (by assumption) ?_
            rotate_left
            · intro w hSw
              go_simp
              with_reducible rfl
            try simp only [List.getElem_toArray, List.getElem_cons_succ, List.getElem_cons_zero, Act.put, List.setIfInBounds_toArray, List.set_cons_zero, List.set_cons_succ]
            refine wpAnyH_take (i := 4) (v := ?_) rfl (by kernel_rfl) (by kernel_rfl) (by kernel_rfl) (fun _ _ _ h => h) (Or.inl ⟨by rfl, ?_⟩) (by assumption) ?_
            rotate_left
            · intro w hSw
              go_simp
              with_reducible rfl
            try simp only [List.getElem_toArray, List.getElem_cons_succ, List.getElem_cons_zero, Act.put, List.setIfInBounds_toArray, List.set_cons_zero, List.set_cons_succ]
            refine wpAnyH_take (i := 5) (v := ?_) rfl (by kernel_rfl) (by kernel_rfl) (by kernel_rfl) (fun _ _ _ h => h) (Or.inl ⟨by rfl, ?_⟩) (by assumption) ?_
            rotate_left
            · intro w hSw
              go_simp
              with_reducible rfl
            try simp only [List.getElem_toArray, List.getElem_cons_succ, List.getElem_cons_zero, Act.put, List.setIfInBounds_toArray, List.set_cons_zero, List.set_cons_succ]
            refine wpAnyH_take (i := 6) (v := ?_) rfl (by kernel_rfl) (by kernel_rfl) (by kernel_rfl) (fun _ _ _ h => h) (Or.inl ⟨by rfl, ?_⟩) (by assumption) ?_
            rotate_left
            · intro w hSw
              go_simp
              with_reducible rfl
            try simp only [List.getElem_toArray, List.getElem_cons_succ, List.getElem_cons_zero, Act.put, List.setIfInBounds_toArray, List.set_cons_zero, List.set_cons_succ]
            refine wpAnyH_take (i := 7) (v := ?_) rfl (by kernel_rfl) (by kernel_rfl) (by kernel_rfl) (fun _ _ _ h => h) (Or.inl ⟨by rfl, ?_⟩) (by assumption) ?_
            rotate_left
            · intro w hSw
              go_simp
              with_reducible rfl
            try simp only [List.getElem_toArray, List.getElem_cons_succ, List.getElem_cons_zero, Act.put, List.setIfInBounds_toArray, List.set_cons_zero, List.set_cons_succ]
            refine wpAnyH_take (i := 8) (v := ?_) rfl (by kernel_rfl) (by kernel_rfl) (by kernel_rfl) (fun _ _ _ h => h) (Or.inl ⟨by rfl, ?_⟩) (by assumption) ?_
            rotate_left
            · intro w hSw
              go_simp
              with_reducible rfl
            try simp only [List.getElem_toArray, List.getElem_cons_succ, List.getElem_cons_zero, Act.put, List.setIfInBounds_toArray, List.set_cons_zero, List.set_cons_succ]
            have c2 : V.drew.cell? ⟨w.heap.size + 1, j.toNat, none⟩ = some (.int .i64 (rd zs j)) := by simpa using c1
            refine wpAnyH_ready (rs := [2, 9]) (by kernel_rfl) (by simp) ?_
            refine AllReadyH.cons rfl (fun K hK => ?_) (AllReadyH.cons rfl (fun K hK => ?_) AllReadyH.nil)
            · go_simp
              refine hK.out _ _ hHeld (fun hHeld => ?_)
              clear hK K
              try simp only [List.getElem_toArray, List.getElem_cons_succ, List.getElem_cons_zero, Act.put, List.setIfInBounds_toArray, List.set_cons_zero, List.set_cons_succ]
              refine wpAnyH_ready (rs := [9]) (by kernel_rfl) (by simp) ?_
              refine AllReadyH.cons rfl (fun K hK => ?_) AllReadyH.nil
              go_simp
              refine (spec_l01Time.calls _ _ _ HTX.out).mono ?_
              rintro e w1 ⟨rfl, hb⟩
              have HB1 := Aside0.mk (below_step (below_drew1 HB.out) hb)
              have HO1 := Aside0.mk (ArrAt.below (W := V.drew) HO.out hb)
              have HZ1 := Aside0.mk (ArrAt.below (W := V.drew) HZ.out hb)
              have hs2 : w1.cell? ⟨(ad.add (i.toNat * 2)).block, (ad.add (i.toNat * 2)).off + 1, none⟩ = some (.int .i8 (rd_T55 l i).f1) := HCW.out _ HB1.out
              clear hb
              go_wp2_with fail
              refine hK.out _ _ hs2 (fun hHeld => ?_)
              clear hK K
              try simp only [List.getElem_toArray, List.getElem_cons_succ, List.getElem_cons_zero, Act.put, List.setIfInBounds_toArray, List.set_cons_zero, List.set_cons_succ]
              have c3 : w1.cell? ⟨w.heap.size + 1, j.toNat, none⟩ = some (.int .i64 (rd zs j)) := HO1.out.cell j0 (by rw [HK.out.1]; omega)
              have f3 := HO1.out.frozen j.toNat
              refine wpAnyH_take (i := 10) (v := ?_) rfl (by kernel_rfl) (by kernel_rfl) (by kernel_rfl) (fun _ _ _ h => h) (Or.inl ⟨by rfl, ?_⟩) (by assumption) ?_
              rotate_left
              · intro w hSw
                go_simp
                with_reducible rfl
              try simp only [List.getElem_toArray, List.getElem_cons_succ, List.getElem_cons_zero, Act.put, List.setIfInBounds_toArray, List.set_cons_zero, List.set_cons_succ]
              refine wpAnyH_take (i := 11) (v := ?_) rfl (by kernel_rfl) (by kernel_rfl) (by kernel_rfl) (fun _ _ _ h => h) (Or.inl ⟨by rfl, ?_⟩) (by assumption) ?_
              rotate_left
              · intro w hSw
                go_simp
                with_reducible rfl
              try simp only [List.getElem_toArray, List.getElem_cons_succ, List.getElem_cons_zero, Act.put, List.setIfInBounds_toArray, List.set_cons_zero, List.set_cons_succ]
              refine wpAnyH_ready (rs := [12]) (by kernel_rfl) (by simp) ?_
              refine AllReadyH.cons rfl (fun K hK => ?_) AllReadyH.nil
              go_simp
              refine hK.out _ _ (HCW.out _ (below_set HB1.out (show w.heap.size ≤ w.heap.size + 1 by omega))) (fun hHeld => ?_)
              clear hK K c1 c2 c3 f1 f3 hs1 hs2 hwr
              try simp only [List.getElem_toArray, List.getElem_cons_succ, List.getElem_cons_zero, Act.put, List.setIfInBounds_toArray, List.set_cons_zero, List.set_cons_succ]
              refine wpAnyH_done (by kernel_rfl) ?_ _
              clear hHeld hcell0
              go_wp2_with fail
              go_roundg j1
              case measure => omega
              case rel => exact ⟨j + 1, zs.set j.toNat (wrap64 (rd zs j + tmv (rd_T55 l i).f1)), _, rfl, rfl, ⟨by have := HJ.out; omega⟩, ⟨by simpa using HK.out.1, by rw [HK.out.2]; simp only [D_innerFrom]; rw [if_pos HBT.out]⟩, ⟨HZ1.out.other (by omega) _ _⟩, ⟨HO1.out.set j _⟩, ⟨below_set HB1.out (by omega)⟩⟩
            · go_simp
              refine (spec_l01Time.calls _ _ _ HTX.out).mono ?_
              rintro e w1 ⟨rfl, hb⟩
              have HB1 := Aside0.mk (below_step (below_drew1 HB.out) hb)
              have HO1 := Aside0.mk (ArrAt.below (W := V.drew) HO.out hb)
              have HZ1 := Aside0.mk (ArrAt.below (W := V.drew) HZ.out hb)
              have hs2 : w1.cell? ⟨(ad.add (i.toNat * 2)).block, (ad.add (i.toNat * 2)).off + 1, none⟩ = some (.int .i8 (rd_T55 l i).f1) := HCW.out _ HB1.out
              clear hb
              go_wp2_with fail
              refine hK.out _ _ hs2 (fun hHeld => ?_)
              clear hK K
              try simp only [List.getElem_toArray, List.getElem_cons_succ, List.getElem_cons_zero, Act.put, List.setIfInBounds_toArray, List.set_cons_zero, List.set_cons_succ]
              have c3 : w1.cell? ⟨w.heap.size + 1, j.toNat, none⟩ = some (.int .i64 (rd zs j)) := HO1.out.cell j0 (by rw [HK.out.1]; omega)
              have f3 := HO1.out.frozen j.toNat
              refine wpAnyH_ready (rs := [2]) (by kernel_rfl) (by simp) ?_
              refine AllReadyH.cons rfl (fun K hK => ?_) AllReadyH.nil
              go_simp
              refine hK.out _ _ hs2 (fun hHeld => ?_)
              clear hK K
              try simp only [List.getElem_toArray, List.getElem_cons_succ, List.getElem_cons_zero, Act.put, List.setIfInBounds_toArray, List.set_cons_zero, List.set_cons_succ]
              refine wpAnyH_take (i := 10) (v := ?_) rfl (by kernel_rfl) (by kernel_rfl) (by kernel_rfl) (fun _ _ _ h => h) (Or.inl ⟨by rfl, ?_⟩) (by assumption) ?_
              rotate_left
              · intro w hSw
                go_simp
                with_reducible rfl
              try simp only [List.getElem_toArray, List.getElem_cons_succ, List.getElem_cons_zero, Act.put, List.setIfInBounds_toArray, List.set_cons_zero, List.set_cons_succ]
              refine wpAnyH_take (i := 11) (v := ?_) rfl (by kernel_rfl) (by kernel_rfl) (by kernel_rfl) (fun _ _ _ h => h) (Or.inl ⟨by rfl, ?_⟩) (by assumption) ?_
              rotate_left
              · intro w hSw
                go_simp
                with_reducible rfl
              try simp only [List.getElem_toArray, List.getElem_cons_succ, List.getElem_cons_zero, Act.put, List.setIfInBounds_toArray, List.set_cons_zero, List.set_cons_succ]
              refine wpAnyH_ready (rs := [12]) (by kernel_rfl) (by simp) ?_
              refine AllReadyH.cons rfl (fun K hK => ?_) AllReadyH.nil
              go_simp
              refine hK.out _ _ (HCW.out _ (below_set HB1.out (show w.heap.size ≤ w.heap.size + 1 by omega))) (fun hHeld => ?_)
              clear hK K c1 c2 c3 f1 f3 hs1 hs2 hwr
              try simp only [List.getElem_toArray, List.getElem_cons_succ, List.getElem_cons_zero, Act.put, List.setIfInBounds_toArray, List.set_cons_zero, List.set_cons_succ]
              refine wpAnyH_done (by kernel_rfl) ?_ _
              clear hHeld hcell0
              go_wp2_with fail
              go_roundg j1
              case measure => omega
              case rel => exact ⟨j + 1, zs.set j.toNat (wrap64 (rd zs j + tmv (rd_T55 l i).f1)), _, rfl, rfl, ⟨by have := HJ.out; omega⟩, ⟨by simpa using HK.out.1, by rw [HK.out.2]; simp only [D_innerFrom]; rw [if_pos HBT.out]⟩, ⟨HZ1.out.other (by omega) _ _⟩, ⟨HO1.out.set j _⟩, ⟨below_set HB1.out (by omega)⟩⟩
          · have hb1 : (Go.bits .and .u64 ((rd_T55 l i).f0 / 2 ^ j.toNat) 1 == 1) = false := by unfold D_bit at hbit; simp [hbit]
            have HBT := Aside0.mk hbit
            clear hbit
            go_wp2_with fail
            go_roundg j1
            case measure => omega
            case rel => exact ⟨j + 1, zs, _, rfl, rfl, ⟨by have := HJ.out; omega⟩, ⟨HK.out.1, by rw [HK.out.2]; simp only [D_innerFrom]; rw [if_neg HBT.out]⟩, HZ, HO, HB⟩
set_option maxHeartbeats 8000000 in
set_option maxRecDepth 100000 in
theorem impl_timesOn.arr (A0 : Option Addr) (c0 : Nat) (l : List S55) (w : World) (hr : Kd.C k55 w A0 l.length l) (hc : l.length ≤ c0) (hth : ∀ x ∈ l, 0 ≤ x.f1 ∧ x.f1 ≤ 36) :
    Calls Tryz.prog 47 #[.slice A0 l.length c0] w fun e w' => e = .returned (.agg (nums .i64 (D_times l)).toArray) ∧ Below w.heap.size w w' := by
  have HR := Aside0.mk hr
  have HC := Aside0.mk hc
  have HT := Aside0.mk hth
  have HZ0 := Aside0.mk (ArrAt.new w 40 .i64 (zer 64))
  have HB0 := Aside0.mk ((Below.refl w.heap.size w).alloc (Nat.le_refl _) (.cells (nums .i64 (zer 64)).toArray 40))
  have HO1 := Aside0.mk (ArrAt.newAt (W := w.alloc (.cells (nums .i64 (zer 64)).toArray 40)) (g := w.heap.size + 1) (by simp) 40 .i64 (zer 64))
  clear hr hc hth
  go_enter Tryz.func47, Tryz.ntmps47
  go_wp2_with (first | (refine arr_store rfl 40 _ _ rfl (w.heap.size + 1) .i64 (zer 64) rfl rfl 40 (zer 64) HO1.out 64 (by kernel_rfl) (zer_len 64) (zer_len 64) ?_))
  go_loopg [10] l.length (fun kq v10 w' => ∃ (i : Int) (ys : List Int) (W : World), W = w' ∧ v10 = .int .i64 i ∧ Aside0 (0 ≤ i ∧ i ≤ l.length ∧ (kq : Int) = l.length - i) ∧ Aside0 (ys.length = 64 ∧ D_timesFrom l (zer 64) = D_timesFrom (l.drop i.toNat) ys) ∧
      Aside0 (ArrAt W w.heap.size 40 .i64 (zer 64)) ∧ Aside0 (ArrAt W (w.heap.size + 1) 40 .i64 ys) ∧ Aside0 (Below w.heap.size w W))
  case atStart => exact ⟨0, zer 64, _, rfl, rfl, ⟨by omega⟩, ⟨zer_len 64, rfl⟩, ⟨(HZ0.out.alloc _).rowOther (by omega) _⟩, ⟨HO1.out.row⟩, ⟨below_row (below_alloc HB0.out _) (by omega) _⟩⟩
  case round =>
    clear HZ0 HO1 HB0
    obtain ⟨i, ys, W, rfl, rfl, HI, HY, HZ, HO, HB⟩ := hrel
    cases gk with
    | zero =>
      have hge : (l.length : Int) ≤ i := by have := HI.out; omega
      have HL2 := Aside0.mk HY.out.1
      have HYS := Aside0.mk (show D_times l = ys by unfold D_times; rw [HY.out.2, List.drop_eq_nil_of_le (by omega)]; rfl)
      go_wp2_with (first | (refine arr_load rfl 40 _ rfl (w.heap.size + 1) rfl 40 .i64 ys HO.out _ Tryz.underlying40 rfl 64 (by kernel_rfl) HL2.out ?_) | (refine arr_store rfl 40 _ _ rfl w.heap.size .i64 ys rfl rfl 40 (zer 64) HZ.out 64 (by kernel_rfl) (zer_len 64) HL2.out ?_))
      refine bodyPost_ret (results_cell_row rfl _ _ w.heap.size 40 (nums .i64 ys).toArray (0, 0) _ rfl HZ.out.row Tryz.underlying40 rfl (by rw [show (Array.size (nums .i64 ys).toArray) = 64 by simp [nums, HL2.out]]; kernel_rfl)) rfl ?_
      exact ⟨by rw [HYS.out], below_row HB.out (Nat.le_refl _) _⟩
    | succ k1 =>
      have hlt : i < (l.length : Int) := by have := HI.out; omega
      have h0 := HI.out.1
      have HTX := Aside0.mk (D_implTime (HT.out _ (rd_T55_mem h0 hlt)))
      have HDR := Aside0.mk (D_times_drop h0 hlt ys)
      have HWR := Aside0.mk (show IntKind.i64.wrap (rd_T55 l i).f1 = (rd_T55 l i).f1 by have := HT.out _ (rd_T55_mem h0 hlt); simp [IntKind.wrap, IntKind.bits, IntKind.signed]; omega)
      obtain ⟨ad, e0, hcell0, hcell1⟩ := at_T55 (Kd.C_below HR.out HB.out) i h0 hlt
      cases e0
      go_wp2_with fail
      have HG := Aside0.mk (show w.heap.size + 1 < W.heap.size from HO.out.lt)
      have hba := below_alloc (Below.refl W.heap.size W) (.cells #[.int .u64 (rd_T55 l i).f0, .int .i8 (rd_T55 l i).f1] 55)
      have HX0 := Aside0.mk (show (W.alloc (.cells #[.int .u64 (rd_T55 l i).f0, .int .i8 (rd_T55 l i).f1] 55)).heap[W.heap.size]? = some (.cells #[.int .u64 (rd_T55 l i).f0, .int .i8 (rd_T55 l i).f1] 55 (0, 0)) from heap_alloc_new _ _)
      have HZ0 := Aside0.mk (HZ.out.below hba)
      have HO0 := Aside0.mk (HO.out.below hba)
      have HB0 := Aside0.mk (below_step HB.out hba)
      clear hba HZ HO HB hcell0 hcell1
      go_loopg [14] 64 (fun kj v14 w' => ∃ (j : Int) (zs : List Int) (V : World), V = w' ∧ v14 = .int .i64 j ∧ Aside0 (0 ≤ j ∧ j + kj = 64) ∧ Aside0 (zs.length = 64 ∧ D_innerFrom (rd_T55 l i).f0 (tmv (rd_T55 l i).f1) 64 ys 0 = D_innerFrom (rd_T55 l i).f0 (tmv (rd_T55 l i).f1) kj zs j) ∧
        Aside0 (V.heap[W.heap.size]? = some (.cells #[.int .u64 (rd_T55 l i).f0, .int .i8 (rd_T55 l i).f1] 55 (0, 0))) ∧ Aside0 (ArrAt V w.heap.size 40 .i64 (zer 64)) ∧ Aside0 (ArrAt V (w.heap.size + 1) 40 .i64 zs) ∧ Aside0 (Below w.heap.size w V))
      case atStart => exact ⟨0, ys, _, rfl, rfl, ⟨by omega⟩, ⟨HY.out.1, rfl⟩, HX0, HZ0, HO0, HB0⟩
      case round =>
        clear HX0 HZ0 HO0 HB0
        obtain ⟨j, zs, V, rfl, rfl, HJ, HK, HX, HZ, HO, HB⟩ := hrel
        cases gk with
        | zero =>
          have hdec : decide (j < 64) = false := decide_eq_false (by have := HJ.out; omega)
          have hge : 64 ≤ j := by have := HJ.out; omega
          have hmx := Kd.C_max HR.out
          have e9 : wrap64 (i + 1) = i + 1 := by unfold wrap64; omega
          have E9 := Aside0.mk e9
          clear e9
          go_wp2_with fail
          go_roundg k1
          case measure => omega
          case rel =>
            refine ⟨i + 1, zs, _, rfl, rfl, ⟨by have := HI.out; omega⟩, ⟨HK.out.1, ?_⟩, HZ, HO, HB⟩
            rw [HY.out.2, HDR.out, HK.out.2]; rfl
        | succ j1 =>
          have j0 := HJ.out.1
          have hj : j < 64 := by have := HJ.out; omega
          have x0 : V.cell? ⟨W.heap.size, 0, none⟩ = some (.int .u64 (rd_T55 l i).f0) := (blk_cell HX.out 0).trans rfl
          go_wp2_with fail
          refine (impl_has.calls _ _ _ _ (D_has j0 hj)).mono ?_
          rintro e w1 ⟨rfl, hb⟩
          have HX1 := Aside0.mk (blk_below HX.out hb.below)
          have HZ1 := Aside0.mk (HZ.out.below hb.below)
          have HO1 := Aside0.mk (HO.out.below hb.below)
          have HB1 := Aside0.mk (below_step HB.out hb.below)
          clear hb HX HZ HO HB x0
          by_cases hbit : D_bit (rd_T55 l i).f0 j
          · have hdd : decide (D_bit (rd_T55 l i).f0 j) = true := decide_eq_true hbit
            have HBT := Aside0.mk hbit
            clear hbit
            have hs0 : w1.cell? ⟨W.heap.size, 1, none⟩ = some (.int .i8 (rd_T55 l i).f1) := (blk_cell HX1.out 1).trans rfl
            have hs1 : w1.drew.cell? ⟨W.heap.size, 1, none⟩ = some (.int .i8 (rd_T55 l i).f1) := by simpa using hs0
            have c1 : w1.cell? ⟨w.heap.size + 1, j.toNat, none⟩ = some (.int .i64 (rd zs j)) := HO1.out.cell j0 (by rw [HK.out.1]; omega)
            go_wp2_with fail
            refine wp_region_held_drew (S := fun w' => w'.cell? ⟨W.heap.size, 1, none⟩ = some (.int .i8 (rd_T55 l i).f1)) (by kernel_rfl) hs1 (fun hHeld => ?_)
            have hwr := HWR.out
            refine wpAnyH_take (i := 0) (v := ?_) rfl (by kernel_rfl) (by kernel_rfl) (by kernel_rfl) (fun _ _ _ h => h) (Or.inl ⟨by rfl, ?_⟩) (by assumption) ?_
            rotate_left
            · intro w hSw
              go_simp
              with_reducible rfl
            try simp only [List.getElem_toArray, List.getElem_cons_succ, List.getElem_cons_zero, Act.put, List.setIfInBounds_toArray, List.set_cons_zero, List.set_cons_succ]
            refine wpAnyH_take (i := 1) (v := ?_) rfl (by kernel_rfl) (by kernel_rfl) (by kernel_rfl) (fun _ _ _ h => h) (Or.inl ⟨by rfl, ?_⟩) (by assumption) ?_
            rotate_left
            · intro w hSw
              go_simp
              with_reducible rfl
            try simp only [List.getElem_toArray, List.getElem_cons_succ, List.getElem_cons_zero, Act.put, List.setIfInBounds_toArray, List.set_cons_zero, List.set_cons_succ]
            refine wpAnyH_take (i := 3) (v := ?_) rfl (by kernel_rfl) (by kernel_rfl) (by kernel_rfl) (fun _ _ _ h => h) (Or.inl ⟨by rfl, ?_⟩) (by assumption) ?_
            rotate_left
            · intro w hSw
              go_simp
              with_reducible rfl
            try simp only [List.getElem_toArray, List.getElem_cons_succ, List.getElem_cons_zero, Act.put, List.setIfInBounds_toArray, List.set_cons_zero, List.set_cons_succ]
            refine wpAnyH_take (i := 4) (v := ?_) rfl (by kernel_rfl) (by kernel_rfl) (by kernel_rfl) (fun _ _ _ h => h) (Or.inl ⟨by rfl, ?_⟩) (by assumption) ?_
            rotate_left
            · intro w hSw
              go_simp
              with_reducible rfl
            try simp only [List.getElem_toArray, List.getElem_cons_succ, List.getElem_cons_zero, Act.put, List.setIfInBounds_toArray, List.set_cons_zero, List.set_cons_succ]
            refine wpAnyH_take (i := 5) (v := ?_) rfl (by kernel_rfl) (by kernel_rfl) (by kernel_rfl) (fun _ _ _ h => h) (Or.inl ⟨by rfl, ?_⟩) (by assumption) ?_
            rotate_left
            · intro w hSw
              go_simp
              with_reducible rfl
            try simp only [List.getElem_toArray, List.getElem_cons_succ, List.getElem_cons_zero, Act.put, List.setIfInBounds_toArray, List.set_cons_zero, List.set_cons_succ]
            have c2 : w1.drew.cell? ⟨w.heap.size + 1, j.toNat, none⟩ = some (.int .i64 (rd zs j)) := by simpa using c1
            refine wpAnyH_ready (rs := [2, 6]) (by kernel_rfl) (by simp) ?_
            refine AllReadyH.cons rfl (fun K hK => ?_) (AllReadyH.cons rfl (fun K hK => ?_) AllReadyH.nil)
            · go_simp
              refine hK.out _ _ hHeld (fun hHeld => ?_)
              clear hK K
              try simp only [List.getElem_toArray, List.getElem_cons_succ, List.getElem_cons_zero, Act.put, List.setIfInBounds_toArray, List.set_cons_zero, List.set_cons_succ]
              refine wpAnyH_ready (rs := [6]) (by kernel_rfl) (by simp) ?_
              refine AllReadyH.cons rfl (fun K hK => ?_) AllReadyH.nil
              go_simp
              refine (impl_timeOf.calls _ _ _ HTX.out).mono ?_
              rintro e w2 ⟨rfl, hb⟩
              have HB2 := Aside0.mk (below_step (below_drew1 HB1.out) hb.below)
              have HX2 := Aside0.mk (blk_below (w := w1.drew) HX1.out hb.below)
              have HO2 := Aside0.mk (ArrAt.below (W := w1.drew) HO1.out hb.below)
              have HZ2 := Aside0.mk (ArrAt.below (W := w1.drew) HZ1.out hb.below)
              have hs2 : w2.cell? ⟨W.heap.size, 1, none⟩ = some (.int .i8 (rd_T55 l i).f1) := (blk_cell HX2.out 1).trans rfl
              clear hb
              go_wp2_with fail
              refine hK.out _ _ hs2 (fun hHeld => ?_)
              clear hK K
              try simp only [List.getElem_toArray, List.getElem_cons_succ, List.getElem_cons_zero, Act.put, List.setIfInBounds_toArray, List.set_cons_zero, List.set_cons_succ]
              have c3 : w2.cell? ⟨w.heap.size + 1, j.toNat, none⟩ = some (.int .i64 (rd zs j)) := HO2.out.cell j0 (by rw [HK.out.1]; omega)
              have f3 := HO2.out.frozen j.toNat
              refine wpAnyH_take (i := 7) (v := ?_) rfl (by kernel_rfl) (by kernel_rfl) (by kernel_rfl) (fun _ _ _ h => h) (Or.inl ⟨by rfl, ?_⟩) (by assumption) ?_
              rotate_left
              · intro w hSw
                go_simp
                with_reducible rfl
              try simp only [List.getElem_toArray, List.getElem_cons_succ, List.getElem_cons_zero, Act.put, List.setIfInBounds_toArray, List.set_cons_zero, List.set_cons_succ]
              refine wpAnyH_take (i := 8) (v := ?_) rfl (by kernel_rfl) (by kernel_rfl) (by kernel_rfl) (fun _ _ _ h => h) (Or.inl ⟨by rfl, ?_⟩) (by assumption) ?_
              rotate_left
              · intro w hSw
                go_simp
                with_reducible rfl
              try simp only [List.getElem_toArray, List.getElem_cons_succ, List.getElem_cons_zero, Act.put, List.setIfInBounds_toArray, List.set_cons_zero, List.set_cons_succ]
              refine wpAnyH_ready (rs := [9]) (by kernel_rfl) (by simp) ?_
              refine AllReadyH.cons rfl (fun K hK => ?_) AllReadyH.nil
              go_simp
              refine hK.out _ _ ((blk_cell ((heap_setCell_other w2 ⟨w.heap.size + 1, j.toNat, none⟩ W.heap.size _ (by have := HG.out; simp; omega)).trans HX2.out) 1).trans rfl) (fun hHeld => ?_)
              clear hK K c1 c2 c3 f3 hs0 hs1 hs2 hwr
              try simp only [List.getElem_toArray, List.getElem_cons_succ, List.getElem_cons_zero, Act.put, List.setIfInBounds_toArray, List.set_cons_zero, List.set_cons_succ]
              refine wpAnyH_done (by kernel_rfl) ?_ _
              clear hHeld
              go_wp2_with fail
              go_roundg j1
              case measure => omega
              case rel => exact ⟨j + 1, zs.set j.toNat (wrap64 (rd zs j + tmv (rd_T55 l i).f1)), _, rfl, rfl, ⟨by have := HJ.out; omega⟩, ⟨by simpa using HK.out.1, by rw [HK.out.2]; simp only [D_innerFrom]; rw [if_pos HBT.out]⟩, ⟨(heap_setCell_other w2 ⟨w.heap.size + 1, j.toNat, none⟩ W.heap.size _ (by have := HG.out; simp; omega)).trans HX2.out⟩, ⟨HZ2.out.other (by omega) _ _⟩, ⟨HO2.out.set j _⟩, ⟨below_set HB2.out (by omega)⟩⟩
            · go_simp
              refine (impl_timeOf.calls _ _ _ HTX.out).mono ?_
              rintro e w2 ⟨rfl, hb⟩
              have HB2 := Aside0.mk (below_step (below_drew1 HB1.out) hb.below)
              have HX2 := Aside0.mk (blk_below (w := w1.drew) HX1.out hb.below)
              have HO2 := Aside0.mk (ArrAt.below (W := w1.drew) HO1.out hb.below)
              have HZ2 := Aside0.mk (ArrAt.below (W := w1.drew) HZ1.out hb.below)
              have hs2 : w2.cell? ⟨W.heap.size, 1, none⟩ = some (.int .i8 (rd_T55 l i).f1) := (blk_cell HX2.out 1).trans rfl
              clear hb
              go_wp2_with fail
              refine hK.out _ _ hs2 (fun hHeld => ?_)
              clear hK K
              try simp only [List.getElem_toArray, List.getElem_cons_succ, List.getElem_cons_zero, Act.put, List.setIfInBounds_toArray, List.set_cons_zero, List.set_cons_succ]
              have c3 : w2.cell? ⟨w.heap.size + 1, j.toNat, none⟩ = some (.int .i64 (rd zs j)) := HO2.out.cell j0 (by rw [HK.out.1]; omega)
              have f3 := HO2.out.frozen j.toNat
              refine wpAnyH_ready (rs := [2]) (by kernel_rfl) (by simp) ?_
              refine AllReadyH.cons rfl (fun K hK => ?_) AllReadyH.nil
              go_simp
              refine hK.out _ _ hs2 (fun hHeld => ?_)
              clear hK K
              try simp only [List.getElem_toArray, List.getElem_cons_succ, List.getElem_cons_zero, Act.put, List.setIfInBounds_toArray, List.set_cons_zero, List.set_cons_succ]
              refine wpAnyH_take (i := 7) (v := ?_) rfl (by kernel_rfl) (by kernel_rfl) (by kernel_rfl) (fun _ _ _ h => h) (Or.inl ⟨by rfl, ?_⟩) (by assumption) ?_
              rotate_left
              · intro w hSw
                go_simp
                with_reducible rfl
              try simp only [List.getElem_toArray, List.getElem_cons_succ, List.getElem_cons_zero, Act.put, List.setIfInBounds_toArray, List.set_cons_zero, List.set_cons_succ]
              refine wpAnyH_take (i := 8) (v := ?_) rfl (by kernel_rfl) (by kernel_rfl) (by kernel_rfl) (fun _ _ _ h => h) (Or.inl ⟨by rfl, ?_⟩) (by assumption) ?_
              rotate_left
              · intro w hSw
                go_simp
                with_reducible rfl
              try simp only [List.getElem_toArray, List.getElem_cons_succ, List.getElem_cons_zero, Act.put, List.setIfInBounds_toArray, List.set_cons_zero, List.set_cons_succ]
              refine wpAnyH_ready (rs := [9]) (by kernel_rfl) (by simp) ?_
              refine AllReadyH.cons rfl (fun K hK => ?_) AllReadyH.nil
              go_simp
              refine hK.out _ _ ((blk_cell ((heap_setCell_other w2 ⟨w.heap.size + 1, j.toNat, none⟩ W.heap.size _ (by have := HG.out; simp; omega)).trans HX2.out) 1).trans rfl) (fun hHeld => ?_)
              clear hK K c1 c2 c3 f3 hs0 hs1 hs2 hwr
              try simp only [List.getElem_toArray, List.getElem_cons_succ, List.getElem_cons_zero, Act.put, List.setIfInBounds_toArray, List.set_cons_zero, List.set_cons_succ]
              refine wpAnyH_done (by kernel_rfl) ?_ _
              clear hHeld
              go_wp2_with fail
              go_roundg j1
              case measure => omega
              case rel => exact ⟨j + 1, zs.set j.toNat (wrap64 (rd zs j + tmv (rd_T55 l i).f1)), _, rfl, rfl, ⟨by have := HJ.out; omega⟩, ⟨by simpa using HK.out.1, by rw [HK.out.2]; simp only [D_innerFrom]; rw [if_pos HBT.out]⟩, ⟨(heap_setCell_other w2 ⟨w.heap.size + 1, j.toNat, none⟩ W.heap.size _ (by have := HG.out; simp; omega)).trans HX2.out⟩, ⟨HZ2.out.other (by omega) _ _⟩, ⟨HO2.out.set j _⟩, ⟨below_set HB2.out (by omega)⟩⟩
          · have hdd : decide (D_bit (rd_T55 l i).f0 j) = false := decide_eq_false hbit
            have HBT := Aside0.mk hbit
            clear hbit
            go_wp2_with fail
            go_roundg j1
            case measure => omega
            case rel => exact ⟨j + 1, zs, _, rfl, rfl, ⟨by have := HJ.out; omega⟩, ⟨HK.out.1, by rw [HK.out.2]; simp only [D_innerFrom]; rw [if_neg HBT.out]⟩, HX1, HZ1, HO1, HB1⟩
end Go.Proofs.YtjonocgmofcieaaGreatDoor.Q
namespace Go.Proofs.YtjonocgmofcieaaGreatDoor.Q
open Go.RowKit Go.Proofs.YtjonocgmofcieaaGreatDoor.PL Go.Proofs.YtjonocgmofcieaaGreatDoorW.PrintWords Go.Proofs.YtjonocgmofcieaaGreatDoorW.PrintLast Go.Proofs.YtjonocgmofcieaaGreatDoorW.PrintMore
set_option linter.unusedVariables false
set_option linter.unusedSimpArgs false
theorem szI64 (w : World) : (sizeOf 2).run Tryz.prog w = .ok 1 w := by kernel_rfl
theorem agI64 (w : World) : (isAgg 2).run Tryz.prog w = .ok false w := by kernel_rfl
def D_light (l : List S55) : List Int := (D_times l).map D_in
theorem D_lightLen (l : List S55) : (D_light l).length = 64 := by simp [D_light, D_timesLen]
theorem D_light_rd (l : List S55) {i : Int} (h0 : 0 ≤ i) (h1 : i < 64) : rd (D_light l) i = D_in (rd (D_times l) i) := by
  have h := D_timesLen l
  unfold rd D_light
  rw [List.getD_eq_getElem?_getD, List.getD_eq_getElem?_getD, List.getElem?_map, List.getElem?_eq_getElem (by omega)]; rfl
theorem rd_setNe {xs : List Int} {i j x : Int} (hi : 0 ≤ i) (hj : 0 ≤ j) (h : i ≠ j) : rd (xs.set i.toNat x) j = rd xs j := by
  unfold rd
  rw [List.getD_eq_getElem?_getD, List.getD_eq_getElem?_getD, List.getElem?_set_ne (by omega)]
set_option maxHeartbeats 8000000 in
set_option maxRecDepth 100000 in
theorem spec_l03Light.arr (A0 : Option Addr) (c0 : Nat) (l : List S55) (w : World) (hr : Kd.C k55 w A0 l.length l) (hc : l.length ≤ c0) (hth : ∀ x ∈ l, 0 ≤ x.f1 ∧ x.f1 ≤ 36) :
    Calls Tryz.prog 50 #[.slice A0 l.length c0] w fun e w' => e = .returned (.agg (nums .i64 (D_light l)).toArray) ∧ Below w.heap.size w w' := by
  have HR := Aside0.mk hr
  have HC := Aside0.mk hc
  have HT := Aside0.mk hth
  have HZ0 := Aside0.mk (ArrAt.new w 40 .i64 (zer 64))
  have HB0 := Aside0.mk ((Below.refl w.heap.size w).alloc (Nat.le_refl _) (.cells (nums .i64 (zer 64)).toArray 40))
  clear hr hc hth
  go_enter Tryz.func50, Tryz.ntmps50
  go_wp2_with fail
  refine (spec_l03Times.arr A0 c0 l _ (Kd.C_below HR.out HB0.out) HC.out HT.out).mono ?_
  rintro e w1 ⟨rfl, hb⟩
  obtain ⟨T, hT⟩ : ∃ T, T = D_times l := ⟨_, rfl⟩
  have HL := Aside0.mk (show T.length = 64 by rw [hT]; exact D_timesLen l)
  have HQ := Aside0.mk (fun (i : Int) (h0 : 0 ≤ i) (h1 : i < 64) => show rd (D_light l) i = D_in (rd T i) by rw [hT]; exact D_light_rd l h0 h1)
  rw [← hT]
  have HB1 := Aside0.mk (below_step HB0.out hb)
  have HZ1 := Aside0.mk (HZ0.out.below hb)
  have HG := Aside0.mk (show w.heap.size < w1.heap.size from HZ1.out.lt)
  have HO1 := Aside0.mk (ArrAt.new w1 40 .i64 (zer 64))
  clear hb HB0 HZ0 hT
  go_wp2_with (first | (refine arr_store rfl 40 _ _ rfl w1.heap.size .i64 T rfl rfl 40 (zer 64) HO1.out 64 (by kernel_rfl) (zer_len 64) HL.out ?_))
  go_loopg [4] 64 (fun kq v4 w' => ∃ (i : Int) (ys : List Int) (W : World), W = w' ∧ v4 = .int .i64 i ∧ Aside0 (0 ≤ i ∧ i + kq = 64) ∧ Aside0 (ys.length = 64 ∧ ys.take i.toNat = (D_light l).take i.toNat ∧ ∀ j : Int, i ≤ j → rd ys j = rd T j) ∧
      Aside0 (ArrAt W w.heap.size 40 .i64 (zer 64)) ∧ Aside0 (ArrAt W w1.heap.size 40 .i64 ys) ∧ Aside0 (Below w.heap.size w W))
  case atStart => exact ⟨0, T, _, rfl, rfl, ⟨by omega⟩, ⟨HL.out, by simp, fun _ _ => rfl⟩, ⟨(HZ1.out.alloc _).rowOther (by have := HG.out; omega) _⟩, ⟨HO1.out.row⟩, ⟨below_row (below_alloc HB1.out _) (by have := HG.out; omega) _⟩⟩
  case round =>
    clear HZ1 HO1 HB1
    obtain ⟨i, ys, W, rfl, rfl, HI, HY, HZ, HO, HB⟩ := hrel
    cases gk with
    | zero =>
      have hdec : decide (i < 64) = false := decide_eq_false (by have := HI.out; omega)
      have HL2 := Aside0.mk HY.out.1
      have hys : ys = D_light l := by
        have := HY.out.2.1
        rw [List.take_of_length_le (by have := HI.out; have := HY.out.1; omega), List.take_of_length_le (by have := HI.out; have := D_lightLen l; omega)] at this
        exact this
      have HYS := Aside0.mk hys
      clear hys
      go_wp2_with (first | (refine arr_load rfl 40 _ rfl w1.heap.size rfl 40 .i64 ys HO.out _ Tryz.underlying40 rfl 64 (by kernel_rfl) HL2.out ?_) | (refine arr_store rfl 40 _ _ rfl w.heap.size .i64 ys rfl rfl 40 (zer 64) HZ.out 64 (by kernel_rfl) (zer_len 64) HL2.out ?_))
      refine bodyPost_ret (results_cell_row rfl _ _ w.heap.size 40 (nums .i64 ys).toArray (0, 0) _ rfl HZ.out.row Tryz.underlying40 rfl (by rw [show (Array.size (nums .i64 ys).toArray) = 64 by simp [nums, HL2.out]]; kernel_rfl)) rfl ?_
      exact ⟨by rw [← HYS.out], below_row HB.out (Nat.le_refl _) _⟩
    | succ k1 =>
      have h0 := HI.out.1
      have hi : i < 64 := by have := HI.out.2; omega
      have c1 : W.cell? ⟨w1.heap.size, i.toNat, none⟩ = some (.int .i64 (rd T i)) := by rw [← HY.out.2.2 i (Int.le_refl _)]; exact HO.out.cell h0 (by rw [HY.out.1]; omega)
      go_wp2_with fail
      refine (spec_l01In.calls 38 _ _ _ (L_specIn (rd T i) (Nat.le_refl _))).mono ?_
      rintro e w2 ⟨rfl, hb⟩
      have HZ2 := Aside0.mk (HZ.out.below hb)
      have HO2 := Aside0.mk (HO.out.below hb)
      have HB2 := Aside0.mk (below_step HB.out hb)
      clear hb HZ HO HB c1
      have c2 : w2.cell? ⟨w1.heap.size, i.toNat, none⟩ = some (.int .i64 (rd ys i)) := HO2.out.cell h0 (by rw [HY.out.1]; omega)
      have f2 := HO2.out.frozen i.toNat
      go_wp2_with fail
      go_roundg k1
      case measure => omega
      case rel =>
        refine ⟨i + 1, ys.set i.toNat (D_in (rd T i)), _, rfl, rfl, ⟨by have := HI.out; omega⟩, ⟨by simpa using HY.out.1, ?_, fun j hj => ?_⟩, ⟨HZ2.out.other (by have := HG.out; omega) _ _⟩, ⟨HO2.out.set i _⟩, ⟨below_set HB2.out (by have := HG.out; omega)⟩⟩
        · rw [← HQ.out i h0 hi]; exact arr_take_set h0 (by rw [HY.out.1]; omega) (by rw [D_lightLen]; omega) HY.out.2.1
        · rw [rd_setNe h0 (by omega) (by omega)]; exact HY.out.2.2 j (by omega)
set_option maxHeartbeats 8000000 in
set_option maxRecDepth 100000 in
theorem impl_lightOn.arr (A0 : Option Addr) (c0 : Nat) (l : List S55) (w : World) (hr : Kd.C k55 w A0 l.length l) (hc : l.length ≤ c0) (hth : ∀ x ∈ l, 0 ≤ x.f1 ∧ x.f1 ≤ 36) :
    Calls Tryz.prog 49 #[.slice A0 l.length c0] w fun e w' => e = .returned (.agg (nums .i64 (D_light l)).toArray) ∧ Below w.heap.size w w' := by
  have HR := Aside0.mk hr
  have HC := Aside0.mk hc
  have HT := Aside0.mk hth
  have HZ0 := Aside0.mk (ArrAt.new w 40 .i64 (zer 64))
  have HO1 := Aside0.mk (ArrAt.newAt (W := w.alloc (.cells (nums .i64 (zer 64)).toArray 40)) (g := w.heap.size + 1) (by simp) 40 .i64 (zer 64))
  have HO2 := Aside0.mk (HO1.out.row (ys := zer 64))
  have HZ2 := Aside0.mk (((HZ0.out.alloc (.cells (nums .i64 (zer 64)).toArray 40))).rowOther (c := w.heap.size + 1) (by omega) (nums .i64 (zer 64)).toArray)
  have HB2 := Aside0.mk (below_row (below_alloc ((Below.refl w.heap.size w).alloc (Nat.le_refl _) (.cells (nums .i64 (zer 64)).toArray 40)) (.cells (nums .i64 (zer 64)).toArray 40)) (by omega : w.heap.size ≤ w.heap.size + 1) (nums .i64 (zer 64)).toArray)
  clear hr hc hth
  go_enter Tryz.func49, Tryz.ntmps49
  go_wp2_with (first | (refine arr_store rfl 40 _ _ rfl (w.heap.size + 1) .i64 (zer 64) rfl rfl 40 (zer 64) HO1.out 64 (by kernel_rfl) (zer_len 64) (zer_len 64) ?_))
  refine (impl_timesOn.arr A0 c0 l _ (Kd.C_below HR.out HB2.out) HC.out HT.out).mono ?_
  rintro e w1 ⟨rfl, hb⟩
  obtain ⟨T, hT⟩ : ∃ T, T = D_times l := ⟨_, rfl⟩
  have HL := Aside0.mk (show T.length = 64 by rw [hT]; exact D_timesLen l)
  have HQ := Aside0.mk (fun (i : Int) (h0 : 0 ≤ i) (h1 : i < 64) => show rd (D_light l) i = D_in (rd T i) by rw [hT]; exact D_light_rd l h0 h1)
  rw [← hT]
  have HB3 := Aside0.mk (below_step HB2.out hb)
  have HZ3 := Aside0.mk (HZ2.out.below hb)
  have HO3 := Aside0.mk (HO2.out.below hb)
  clear hb HZ0 HO1 HO2 HZ2 HB2 hT
  go_wp2_with fail
  go_loopg [10] 64 (fun kq v10 w' => ∃ (i : Int) (ys : List Int) (W : World), W = w' ∧ v10 = .int .i64 i ∧ Aside0 (0 ≤ i ∧ i + kq = 64) ∧ Aside0 (ys.length = 64 ∧ ys.take i.toNat = (D_light l).take i.toNat) ∧
      Aside0 (ArrAt W w.heap.size 40 .i64 (zer 64)) ∧ Aside0 (ArrAt W (w.heap.size + 1) 40 .i64 ys) ∧ Aside0 (Below w.heap.size w W))
  case atStart => exact ⟨0, zer 64, _, rfl, rfl, ⟨by omega⟩, ⟨zer_len 64, by simp⟩, HZ3, HO3, HB3⟩
  case round =>
    clear HZ3 HO3 HB3
    obtain ⟨i, ys, W, rfl, rfl, HI, HY, HZ, HO, HB⟩ := hrel
    cases gk with
    | zero =>
      have hdec : decide (i < 64) = false := decide_eq_false (by have := HI.out; omega)
      have HL2 := Aside0.mk HY.out.1
      have hys : ys = D_light l := by
        have := HY.out.2
        rw [List.take_of_length_le (by have := HI.out; have := HY.out.1; omega), List.take_of_length_le (by have := HI.out; have := D_lightLen l; omega)] at this
        exact this
      have HYS := Aside0.mk hys
      clear hys
      go_wp2_with (first | (refine arr_load rfl 40 _ rfl (w.heap.size + 1) rfl 40 .i64 ys HO.out _ Tryz.underlying40 rfl 64 (by kernel_rfl) HL2.out ?_) | (refine arr_store rfl 40 _ _ rfl w.heap.size .i64 ys rfl rfl 40 (zer 64) HZ.out 64 (by kernel_rfl) (zer_len 64) HL2.out ?_))
      refine bodyPost_ret (results_cell_row rfl _ _ w.heap.size 40 (nums .i64 ys).toArray (0, 0) _ rfl HZ.out.row Tryz.underlying40 rfl (by rw [show (Array.size (nums .i64 ys).toArray) = 64 by simp [nums, HL2.out]]; kernel_rfl)) rfl ?_
      exact ⟨by rw [← HYS.out], below_row HB.out (Nat.le_refl _) _⟩
    | succ k1 =>
      have h0 := HI.out.1
      have hi : i < 64 := by have := HI.out.2; omega
      have hx := arr_index (k := .i64) (xs := T) Tryz.underlying40 szI64 agI64 h0 (by rw [HL.out]; omega) HL.out
      have c2 : W.cell? ⟨w.heap.size + 1, i.toNat, none⟩ = some (.int .i64 (rd ys i)) := HO.out.cell h0 (by rw [HY.out.1]; omega)
      have f2 := HO.out.frozen i.toNat
      obtain ⟨s, hs⟩ : ∃ s, s = rd T i := ⟨_, rfl⟩
      rw [← hs] at hx
      have HS := Aside0.mk hs
      clear hs
      go_wp2_with fail
      clear hx c2 f2
      go_loopg [6] 37 (fun kj v6 w' => ∃ (k : Int) (V : World), V = w' ∧ v6 = .int .i64 k ∧ Aside0 (0 ≤ k ∧ k + kj = 37) ∧ Aside0 (0 < k → tmv (k - 1) ≤ s) ∧
        Aside0 (ArrAt V w.heap.size 40 .i64 (zer 64)) ∧ Aside0 (ArrAt V (w.heap.size + 1) 40 .i64 (ys.set i.toNat (k - 1))) ∧ Aside0 (Below w.heap.size w V))
      case atStart => exact ⟨0, _, rfl, rfl, ⟨by omega⟩, ⟨fun h => absurd h (by omega)⟩, ⟨HZ.out.other (by omega) _ _⟩, ⟨HO.out.set i _⟩, ⟨below_set HB.out (by omega)⟩⟩
      case round =>
        clear HZ HO HB
        obtain ⟨k, V, rfl, rfl, HK, HP, HZ, HO, HB⟩ := hrel
        have hk0 := HK.out.1
        have hk1 : k ≤ 37 := by have := HK.out.2; omega
        go_wp2_with fail
        refine (impl_areThirds.calls _ _ _ (L_areThirds k)).mono ?_
        rintro e w2 ⟨rfl, hb⟩
        have HZ2 := Aside0.mk (HZ.out.below hb.below)
        have HO2 := Aside0.mk (HO.out.below hb.below)
        have HB2 := Aside0.mk (below_step HB.out hb.below)
        clear hb HZ HO HB
        have HE := Aside0.mk (show wrap64 (i + 1) = i + 1 by unfold wrap64; omega)
        by_cases hk : k ≤ 36
        · have hd : decide (0 ≤ k ∧ k ≤ 36) = true := decide_eq_true ⟨hk0, hk⟩
          go_wp2_with fail
          refine (impl_timeOf.calls _ _ _ (L_timeOf ⟨hk0, hk⟩)).mono ?_
          rintro e w3 ⟨rfl, hb⟩
          have HZ3 := Aside0.mk (HZ2.out.below hb.below)
          have HO3 := Aside0.mk (HO2.out.below hb.below)
          have HB3 := Aside0.mk (below_step HB2.out hb.below)
          clear hb HZ2 HO2 HB2
          by_cases ht : tmv k ≤ s
          · have htt : decide (tmv k ≤ s) = true := decide_eq_true ht
            have HTT := Aside0.mk ht
            clear ht
            cases gk with
            | zero => exact absurd hk (by have := HK.out; omega)
            | succ kj =>
              have c3 : w3.cell? ⟨w.heap.size + 1, i.toNat, none⟩ = some (.int .i64 (rd (ys.set i.toNat (k - 1)) i)) := HO3.out.cell h0 (by simp [HY.out.1]; omega)
              have f3 := HO3.out.frozen i.toNat
              go_wp2_with fail
              go_roundg kj
              case measure => omega
              case rel =>
                refine ⟨k + 1, _, rfl, rfl, ⟨by have := HK.out; omega⟩, ⟨fun _ => by rw [show k + 1 - 1 = k by omega]; exact HTT.out⟩, ⟨HZ3.out.other (by omega) _ _⟩, ⟨?_⟩, ⟨below_set HB3.out (by omega)⟩⟩
                have := HO3.out.set i k
                rw [List.set_set] at this
                rw [show k + 1 - 1 = k by omega]; exact this
          · have htt : decide (tmv k ≤ s) = false := decide_eq_false ht
            have HU := Aside0.mk (show k - 1 = D_in s from L_inUnique (by omega) (fun h => HP.out (by omega)) (fun _ => by rw [show k - 1 + 1 = k by omega]; omega))
            clear ht
            go_wp2_with fail
            go_roundg k1
            case measure => omega
            case rel =>
              refine ⟨i + 1, ys.set i.toNat (k - 1), _, rfl, rfl, ⟨by have := HI.out; omega⟩, ⟨by simpa using HY.out.1, ?_⟩, HZ3, HO3, HB3⟩
              rw [HU.out, HS.out, ← HQ.out i h0 hi]; exact arr_take_set h0 (by rw [HY.out.1]; omega) (by rw [D_lightLen]; omega) HY.out.2
        · have hd : decide (0 ≤ k ∧ k ≤ 36) = false := decide_eq_false (fun h => hk h.2)
          have HU := Aside0.mk (show k - 1 = D_in s from L_inUnique (by omega) (fun h => HP.out (by omega)) (fun h => by omega))
          go_wp2_with fail
          go_roundg k1
          case measure => omega
          case rel =>
            refine ⟨i + 1, ys.set i.toNat (k - 1), _, rfl, rfl, ⟨by have := HI.out; omega⟩, ⟨by simpa using HY.out.1, ?_⟩, HZ2, HO2, HB2⟩
            rw [HU.out, HS.out, ← HQ.out i h0 hi]; exact arr_take_set h0 (by rw [HY.out.1]; omega) (by rw [D_lightLen]; omega) HY.out.2
end Go.Proofs.YtjonocgmofcieaaGreatDoor.Q
namespace Go.Proofs.YtjonocgmofcieaaGreatDoor.Q
open Go.RowKit Go.Proofs.YtjonocgmofcieaaGreatDoor.PL Go.Proofs.YtjonocgmofcieaaGreatDoorW.PrintWords Go.Proofs.YtjonocgmofcieaaGreatDoorW.PrintLast Go.Proofs.YtjonocgmofcieaaGreatDoorW.PrintMore
set_option linter.unusedVariables false
set_option linter.unusedSimpArgs false
def D_timesOn (l : List S55) : List Int × Int := if D_steps l then (D_times l, 0) else (zer 64, 1)
theorem D_timesOn_len (l : List S55) : (D_timesOn l).1.length = 64 := by unfold D_timesOn; split <;> simp [D_timesLen, zer]
set_option maxHeartbeats 8000000 in
set_option maxRecDepth 100000 in
theorem impl_TimesOn.arr (A0 : Option Addr) (c0 : Nat) (l : List S55) (w : World) (hr : Kd.C k55 w A0 l.length l) (hc : l.length ≤ c0) (h8 : D_i8s l) (hn : l.length ≤ 140737488351232) :
    Calls Tryz.prog 13 #[.slice A0 l.length c0] w fun e w' => e = .returned (.tuple #[.agg (nums .i64 (D_timesOn l).1).toArray, .int .i64 (D_timesOn l).2]) ∧ Below w.heap.size w w' := by
  have HR := Aside0.mk hr
  have HC := Aside0.mk hc
  have HOK := Aside0.mk (L_implSteps l h8)
  have HZ0 := Aside0.mk (ArrAt.new w 40 .i64 (zer 64))
  have HB0 := Aside0.mk ((Below.refl w.heap.size w).alloc (Nat.le_refl _) (.cells (nums .i64 (zer 64)).toArray 40))
  clear hr hc hn
  go_enter Tryz.func13, Tryz.ntmps13
  go_wp2_with fail
  refine (impl_ValidSteps.calls A0 c0 l (decide (D_steps l)) _ (Kd.C_below HR.out HB0.out) HC.out HOK.out).mono ?_
  rintro e w1 ⟨rfl, hb⟩
  have HB1 := Aside0.mk (below_step HB0.out hb)
  have HZ1 := Aside0.mk (HZ0.out.below hb)
  clear hb HB0 HZ0
  by_cases hd : D_steps l
  · have hdd : decide (D_steps l) = true := decide_eq_true hd
    have HD := Aside0.mk hd
    have HE := Aside0.mk (show D_timesOn l = (D_times l, 0) from if_pos hd)
    clear hd
    go_wp2_with fail
    refine (impl_timesOn.arr A0 c0 l _ (Kd.C_below HR.out HB1.out) HC.out HD.out.1).mono ?_
    rintro e w2 ⟨rfl, hb⟩
    have HB2 := Aside0.mk (below_step HB1.out hb)
    have HZ2 := Aside0.mk (HZ1.out.below hb)
    obtain ⟨Z, hZ⟩ : ∃ Z, Z = D_times l := ⟨_, rfl⟩
    have HL := Aside0.mk (show Z.length = 64 by rw [hZ]; exact D_timesLen l)
    rw [← hZ]
    have HZZ := Aside0.mk hZ
    clear hb HB1 HZ1 hZ
    go_wp2_with (first | (refine arr_store rfl 40 _ _ rfl w.heap.size .i64 Z rfl rfl 40 (zer 64) HZ2.out 64 (by kernel_rfl) (zer_len 64) HL.out ?_))
    refine bodyPost_ret (results_ct rfl _ _ w.heap.size 40 (nums .i64 Z).toArray (0, 0) _ rfl HZ2.out.row Tryz.underlying40 rfl (by rw [show (Array.size (nums .i64 Z).toArray) = 64 by simp [nums, HL.out]]; kernel_rfl)) rfl ?_
    exact ⟨by rw [HE.out, HZZ.out]; rfl, below_row HB2.out (Nat.le_refl _) _⟩
  · have hdd : decide (D_steps l) = false := decide_eq_false hd
    have HE := Aside0.mk (show D_timesOn l = (zer 64, 1) from if_neg hd)
    clear hd
    go_wp2_with (first | (refine arr_store rfl 40 _ _ rfl w.heap.size .i64 (zer 64) rfl rfl 40 (zer 64) HZ1.out 64 (by kernel_rfl) (zer_len 64) (zer_len 64) ?_))
    refine bodyPost_ret (results_ct rfl _ _ w.heap.size 40 (nums .i64 (zer 64)).toArray (0, 0) _ rfl HZ1.out.row Tryz.underlying40 rfl (by rw [show (Array.size (nums .i64 (zer 64)).toArray) = 64 by simp [nums, zer]]; kernel_rfl)) rfl ?_
    exact ⟨by rw [HE.out]; rfl, below_row HB1.out (Nat.le_refl _) _⟩
def D_lightOn (l : List S55) : List Int × Int := if D_steps l then (D_light l, 0) else (zer 64, 1)
theorem D_lightOn_len (l : List S55) : (D_lightOn l).1.length = 64 := by unfold D_lightOn; split <;> simp [D_lightLen, zer]
set_option maxHeartbeats 8000000 in
set_option maxRecDepth 100000 in
theorem impl_LightOn.arr (A0 : Option Addr) (c0 : Nat) (l : List S55) (w : World) (hr : Kd.C k55 w A0 l.length l) (hc : l.length ≤ c0) (h8 : D_i8s l) (hn : l.length ≤ 140737488351232) :
    Calls Tryz.prog 15 #[.slice A0 l.length c0] w fun e w' => e = .returned (.tuple #[.agg (nums .i64 (D_lightOn l).1).toArray, .int .i64 (D_lightOn l).2]) ∧ Below w.heap.size w w' := by
  have HR := Aside0.mk hr
  have HC := Aside0.mk hc
  have HOK := Aside0.mk (L_implSteps l h8)
  have HZ0 := Aside0.mk (ArrAt.new w 40 .i64 (zer 64))
  have HB0 := Aside0.mk ((Below.refl w.heap.size w).alloc (Nat.le_refl _) (.cells (nums .i64 (zer 64)).toArray 40))
  clear hr hc hn
  go_enter Tryz.func15, Tryz.ntmps15
  go_wp2_with fail
  refine (impl_ValidSteps.calls A0 c0 l (decide (D_steps l)) _ (Kd.C_below HR.out HB0.out) HC.out HOK.out).mono ?_
  rintro e w1 ⟨rfl, hb⟩
  have HB1 := Aside0.mk (below_step HB0.out hb)
  have HZ1 := Aside0.mk (HZ0.out.below hb)
  clear hb HB0 HZ0
  by_cases hd : D_steps l
  · have hdd : decide (D_steps l) = true := decide_eq_true hd
    have HD := Aside0.mk hd
    have HE := Aside0.mk (show D_lightOn l = (D_light l, 0) from if_pos hd)
    clear hd
    go_wp2_with fail
    refine (impl_lightOn.arr A0 c0 l _ (Kd.C_below HR.out HB1.out) HC.out HD.out.1).mono ?_
    rintro e w2 ⟨rfl, hb⟩
    have HB2 := Aside0.mk (below_step HB1.out hb)
    have HZ2 := Aside0.mk (HZ1.out.below hb)
    obtain ⟨Z, hZ⟩ : ∃ Z, Z = D_light l := ⟨_, rfl⟩
    have HL := Aside0.mk (show Z.length = 64 by rw [hZ]; exact D_lightLen l)
    rw [← hZ]
    have HZZ := Aside0.mk hZ
    clear hb HB1 HZ1 hZ
    go_wp2_with (first | (refine arr_store rfl 40 _ _ rfl w.heap.size .i64 Z rfl rfl 40 (zer 64) HZ2.out 64 (by kernel_rfl) (zer_len 64) HL.out ?_))
    refine bodyPost_ret (results_ct rfl _ _ w.heap.size 40 (nums .i64 Z).toArray (0, 0) _ rfl HZ2.out.row Tryz.underlying40 rfl (by rw [show (Array.size (nums .i64 Z).toArray) = 64 by simp [nums, HL.out]]; kernel_rfl)) rfl ?_
    exact ⟨by rw [HE.out, HZZ.out]; rfl, below_row HB2.out (Nat.le_refl _) _⟩
  · have hdd : decide (D_steps l) = false := decide_eq_false hd
    have HE := Aside0.mk (show D_lightOn l = (zer 64, 1) from if_neg hd)
    clear hd
    go_wp2_with (first | (refine arr_store rfl 40 _ _ rfl w.heap.size .i64 (zer 64) rfl rfl 40 (zer 64) HZ1.out 64 (by kernel_rfl) (zer_len 64) (zer_len 64) ?_))
    refine bodyPost_ret (results_ct rfl _ _ w.heap.size 40 (nums .i64 (zer 64)).toArray (0, 0) _ rfl HZ1.out.row Tryz.underlying40 rfl (by rw [show (Array.size (nums .i64 (zer 64)).toArray) = 64 by simp [nums, zer]]; kernel_rfl)) rfl ?_
    exact ⟨by rw [HE.out]; rfl, below_row HB1.out (Nat.le_refl _) _⟩
end Go.Proofs.YtjonocgmofcieaaGreatDoor.Q
namespace Go.Proofs.YtjonocgmofcieaaGreatDoor.Q
open Go.RowKit Go.Proofs.YtjonocgmofcieaaGreatDoor.PL Go.Proofs.YtjonocgmofcieaaGreatDoorW.PrintWords Go.Proofs.YtjonocgmofcieaaGreatDoorW.PrintLast Go.Proofs.YtjonocgmofcieaaGreatDoorW.PrintMore
set_option linter.unusedVariables false
set_option linter.unusedSimpArgs false
set_option maxHeartbeats 8000000 in
set_option maxRecDepth 100000 in
theorem spec_TimesOn.arr (A0 : Option Addr) (c0 : Nat) (l : List S55) (w : World) (hr : Kd.C k55 w A0 l.length l) (hc : l.length ≤ c0) (h8 : D_i8s l) (hn : l.length ≤ 140737488351232) :
    Calls Tryz.prog 14 #[.slice A0 l.length c0] w fun e w' => e = .returned (.tuple #[.agg (nums .i64 (D_timesOn l).1).toArray, .int .i64 (D_timesOn l).2]) ∧ Below w.heap.size w w' := by
  have HR := Aside0.mk hr
  have HC := Aside0.mk hc
  have HOK := Aside0.mk (L_stepsOk l h8 hn (Nat.lt_succ_self _))
  have HZ0 := Aside0.mk (ArrAt.new w 40 .i64 (zer 64))
  have HB0 := Aside0.mk ((Below.refl w.heap.size w).alloc (Nat.le_refl _) (.cells (nums .i64 (zer 64)).toArray 40))
  clear hr hc hn
  go_enter Tryz.func14, Tryz.ntmps14
  go_wp2_with fail
  refine (spec_l03Ok.calls _ A0 c0 l (decide (D_steps l)) _ (Kd.C_below HR.out HB0.out) HC.out HOK.out).mono ?_
  rintro e w1 ⟨rfl, hb⟩
  have HB1 := Aside0.mk (below_step HB0.out hb.below)
  have HZ1 := Aside0.mk (HZ0.out.below hb.below)
  clear hb HB0 HZ0
  by_cases hd : D_steps l
  · have hdd : decide (D_steps l) = true := decide_eq_true hd
    have HD := Aside0.mk hd
    have HE := Aside0.mk (show D_timesOn l = (D_times l, 0) from if_pos hd)
    clear hd
    go_wp2_with fail
    refine (spec_l03Times.arr A0 c0 l _ (Kd.C_below HR.out HB1.out) HC.out HD.out.1).mono ?_
    rintro e w2 ⟨rfl, hb⟩
    have HB2 := Aside0.mk (below_step HB1.out hb)
    have HZ2 := Aside0.mk (HZ1.out.below hb)
    obtain ⟨Z, hZ⟩ : ∃ Z, Z = D_times l := ⟨_, rfl⟩
    have HL := Aside0.mk (show Z.length = 64 by rw [hZ]; exact D_timesLen l)
    rw [← hZ]
    have HZZ := Aside0.mk hZ
    clear hb HB1 HZ1 hZ
    go_wp2_with (first | (refine arr_store rfl 40 _ _ rfl w.heap.size .i64 Z rfl rfl 40 (zer 64) HZ2.out 64 (by kernel_rfl) (zer_len 64) HL.out ?_))
    refine bodyPost_ret (results_ct rfl _ _ w.heap.size 40 (nums .i64 Z).toArray (0, 0) _ rfl HZ2.out.row Tryz.underlying40 rfl (by rw [show (Array.size (nums .i64 Z).toArray) = 64 by simp [nums, HL.out]]; kernel_rfl)) rfl ?_
    exact ⟨by rw [HE.out, HZZ.out]; rfl, below_row HB2.out (Nat.le_refl _) _⟩
  · have hdd : decide (D_steps l) = false := decide_eq_false hd
    have HE := Aside0.mk (show D_timesOn l = (zer 64, 1) from if_neg hd)
    clear hd
    go_wp2_with (first | (refine arr_store rfl 40 _ _ rfl w.heap.size .i64 (zer 64) rfl rfl 40 (zer 64) HZ1.out 64 (by kernel_rfl) (zer_len 64) (zer_len 64) ?_))
    refine bodyPost_ret (results_ct rfl _ _ w.heap.size 40 (nums .i64 (zer 64)).toArray (0, 0) _ rfl HZ1.out.row Tryz.underlying40 rfl (by rw [show (Array.size (nums .i64 (zer 64)).toArray) = 64 by simp [nums, zer]]; kernel_rfl)) rfl ?_
    exact ⟨by rw [HE.out]; rfl, below_row HB1.out (Nat.le_refl _) _⟩
set_option maxHeartbeats 8000000 in
set_option maxRecDepth 100000 in
theorem spec_LightOn.arr (A0 : Option Addr) (c0 : Nat) (l : List S55) (w : World) (hr : Kd.C k55 w A0 l.length l) (hc : l.length ≤ c0) (h8 : D_i8s l) (hn : l.length ≤ 140737488351232) :
    Calls Tryz.prog 16 #[.slice A0 l.length c0] w fun e w' => e = .returned (.tuple #[.agg (nums .i64 (D_lightOn l).1).toArray, .int .i64 (D_lightOn l).2]) ∧ Below w.heap.size w w' := by
  have HR := Aside0.mk hr
  have HC := Aside0.mk hc
  have HOK := Aside0.mk (L_stepsOk l h8 hn (Nat.lt_succ_self _))
  have HZ0 := Aside0.mk (ArrAt.new w 40 .i64 (zer 64))
  have HB0 := Aside0.mk ((Below.refl w.heap.size w).alloc (Nat.le_refl _) (.cells (nums .i64 (zer 64)).toArray 40))
  clear hr hc hn
  go_enter Tryz.func16, Tryz.ntmps16
  go_wp2_with fail
  refine (spec_l03Ok.calls _ A0 c0 l (decide (D_steps l)) _ (Kd.C_below HR.out HB0.out) HC.out HOK.out).mono ?_
  rintro e w1 ⟨rfl, hb⟩
  have HB1 := Aside0.mk (below_step HB0.out hb.below)
  have HZ1 := Aside0.mk (HZ0.out.below hb.below)
  clear hb HB0 HZ0
  by_cases hd : D_steps l
  · have hdd : decide (D_steps l) = true := decide_eq_true hd
    have HD := Aside0.mk hd
    have HE := Aside0.mk (show D_lightOn l = (D_light l, 0) from if_pos hd)
    clear hd
    go_wp2_with fail
    refine (spec_l03Light.arr A0 c0 l _ (Kd.C_below HR.out HB1.out) HC.out HD.out.1).mono ?_
    rintro e w2 ⟨rfl, hb⟩
    have HB2 := Aside0.mk (below_step HB1.out hb)
    have HZ2 := Aside0.mk (HZ1.out.below hb)
    obtain ⟨Z, hZ⟩ : ∃ Z, Z = D_light l := ⟨_, rfl⟩
    have HL := Aside0.mk (show Z.length = 64 by rw [hZ]; exact D_lightLen l)
    rw [← hZ]
    have HZZ := Aside0.mk hZ
    clear hb HB1 HZ1 hZ
    go_wp2_with (first | (refine arr_store rfl 40 _ _ rfl w.heap.size .i64 Z rfl rfl 40 (zer 64) HZ2.out 64 (by kernel_rfl) (zer_len 64) HL.out ?_))
    refine bodyPost_ret (results_ct rfl _ _ w.heap.size 40 (nums .i64 Z).toArray (0, 0) _ rfl HZ2.out.row Tryz.underlying40 rfl (by rw [show (Array.size (nums .i64 Z).toArray) = 64 by simp [nums, HL.out]]; kernel_rfl)) rfl ?_
    exact ⟨by rw [HE.out, HZZ.out]; rfl, below_row HB2.out (Nat.le_refl _) _⟩
  · have hdd : decide (D_steps l) = false := decide_eq_false hd
    have HE := Aside0.mk (show D_lightOn l = (zer 64, 1) from if_neg hd)
    clear hd
    go_wp2_with (first | (refine arr_store rfl 40 _ _ rfl w.heap.size .i64 (zer 64) rfl rfl 40 (zer 64) HZ1.out 64 (by kernel_rfl) (zer_len 64) (zer_len 64) ?_))
    refine bodyPost_ret (results_ct rfl _ _ w.heap.size 40 (nums .i64 (zer 64)).toArray (0, 0) _ rfl HZ1.out.row Tryz.underlying40 rfl (by rw [show (Array.size (nums .i64 (zer 64)).toArray) = 64 by simp [nums, zer]]; kernel_rfl)) rfl ?_
    exact ⟨by rw [HE.out]; rfl, below_row HB1.out (Nat.le_refl _) _⟩
end Go.Proofs.YtjonocgmofcieaaGreatDoor.Q
namespace Go.Proofs.YtjonocgmofcieaaGreatDoor.Q
open Go.RowKit Go.Proofs.YtjonocgmofcieaaGreatDoor.PL Go.Proofs.YtjonocgmofcieaaGreatDoorW.PrintWords Go.Proofs.YtjonocgmofcieaaGreatDoorW.PrintLast Go.Proofs.YtjonocgmofcieaaGreatDoorW.PrintMore
set_option linter.unusedVariables false
set_option linter.unusedSimpArgs false
/-- what the steps give a cell, in time -/
def D_sumAt (k : Int) : List S55 → Int
  | [] => 0
  | x :: r => (if D_bit x.f0 k then tmv x.f1 else 0) + D_sumAt k r

theorem L_sumApp (k : Int) : ∀ a b : List S55, D_sumAt k (a ++ b) = D_sumAt k a + D_sumAt k b
  | [], b => by simp [D_sumAt]
  | x :: r, b => by simp only [List.cons_append, D_sumAt]; rw [L_sumApp k r b]; omega

theorem L_sumZero (k : Int) : ∀ a : List S55, (∀ x ∈ a, ¬ D_bit x.f0 k) → D_sumAt k a = 0
  | [], _ => rfl
  | x :: r, h => by simp only [D_sumAt]; rw [if_neg (h x (by simp)), L_sumZero k r (fun y hy => h y (by simp [hy]))]; rfl

theorem L_sumRange (k : Int) : ∀ a : List S55, (∀ x ∈ a, 0 ≤ x.f1 ∧ x.f1 ≤ 36) → 0 ≤ D_sumAt k a ∧ D_sumAt k a ≤ 4096000 * a.length
  | [], _ => by simp [D_sumAt]
  | x :: r, h => by
    have := L_sumRange k r (fun y hy => h y (by simp [hy]))
    have := L_tmv (h x (by simp))
    simp only [D_sumAt, List.length_cons]
    split <;> omega

theorem L_innerRd (m t : Int) (ht : 0 ≤ t ∧ t ≤ 4096000) (i : Int) (i0 : 0 ≤ i) (i1 : i < 64) (d : Nat) : ∀ (ys : List Int) (k : Int), ys.length = 64 → 0 ≤ k → k + d = 64 → 0 ≤ rd ys i → (k ≤ i → rd ys i ≤ 1000000000000) → rd (D_innerFrom m t d ys k) i = rd ys i + (if k ≤ i ∧ D_bit m i then t else 0) := by
  induction d with
  | zero =>
    intro ys k hl hk hd h0 h1
    simp only [D_innerFrom]
    rw [if_neg (by omega)]; omega
  | succ d ih =>
    intro ys k hl hk hd h0 h1
    simp only [D_innerFrom]
    by_cases hb : D_bit m k
    · rw [if_pos hb]
      by_cases e : i = k
      · subst e
        have e1 : rd (ys.set i.toNat (wrap64 (rd ys i + t))) i = rd ys i + t := by
          rw [show wrap64 (rd ys i + t) = rd ys i + t by have := h1 (by omega); unfold wrap64; omega]
          unfold rd
          rw [List.getD_eq_getElem?_getD, List.getElem?_set_self (by omega)]; rfl
        rw [ih _ (i + 1) (by simp [hl]) (by omega) (by omega) (by omega) (fun h => by omega), e1, if_neg (by omega), if_pos ⟨by omega, hb⟩]; omega
      · have e1 : rd (ys.set k.toNat (wrap64 (rd ys k + t))) i = rd ys i := rd_setNe hk i0 (fun h => e h.symm)
        rw [ih _ (k + 1) (by simp [hl]) (by omega) (by omega) (by omega) (fun h => by have := h1 (by omega); omega), e1]
        congr 1
        by_cases q : k + 1 ≤ i ∧ D_bit m i
        · rw [if_pos q, if_pos ⟨by omega, q.2⟩]
        · rw [if_neg q, if_neg (fun h => q ⟨by omega, h.2⟩)]
    · rw [if_neg hb, ih ys (k + 1) hl (by omega) (by omega) h0 (fun h => h1 (by omega))]
      congr 1
      by_cases q : k + 1 ≤ i ∧ D_bit m i
      · rw [if_pos q, if_pos ⟨by omega, q.2⟩]
      · rw [if_neg q, if_neg (fun h => q ⟨by have : i ≠ k := fun e => hb (e ▸ h.2); omega, h.2⟩)]

theorem L_timesRd (i : Int) (i0 : 0 ≤ i) (i1 : i < 64) : ∀ (l : List S55) (ys : List Int), (∀ x ∈ l, 0 ≤ x.f1 ∧ x.f1 ≤ 36) → ys.length = 64 → 0 ≤ rd ys i → rd ys i + 4096000 * l.length ≤ 1000000000000 → rd (D_timesFrom l ys) i = rd ys i + D_sumAt i l
  | [], ys, _, _, _, _ => by simp [D_timesFrom, D_sumAt]
  | x :: r, ys, h, hl, h0, h1 => by
    have ht := L_tmv (h x (by simp))
    simp only [List.length_cons] at h1
    have e := L_innerRd x.f0 (tmv x.f1) (by omega) i i0 i1 64 ys 0 hl (by omega) (by omega) h0 (fun _ => by omega)
    simp only [D_timesFrom]
    by_cases hb : D_bit x.f0 i
    · rw [if_pos ⟨i0, hb⟩] at e
      rw [L_timesRd i i0 i1 r _ (fun y hy => h y (by simp [hy])) (by rw [D_inner_len]; exact hl) (by omega) (by omega), e]
      simp only [D_sumAt]; rw [if_pos hb]; omega
    · rw [if_neg (fun q => hb q.2)] at e
      rw [L_timesRd i i0 i1 r _ (fun y hy => h y (by simp [hy])) (by rw [D_inner_len]; exact hl) (by omega) (by omega), e]
      simp only [D_sumAt]; rw [if_neg hb]; omega

theorem L_timesAt {l : List S55} (h : ∀ x ∈ l, 0 ≤ x.f1 ∧ x.f1 ≤ 36) (hn : l.length ≤ 100) {i : Int} (i0 : 0 ≤ i) (i1 : i < 64) : rd (D_times l) i = D_sumAt i l := by
  have hz : rd (zer 64) i = 0 := by
    unfold zer rd
    rw [List.getD_eq_getElem?_getD, List.getElem?_replicate]
    split <;> rfl
  unfold D_times
  rw [L_timesRd i i0 i1 l (zer 64) h (zer_len 64) (by omega) (by omega), hz]; omega

theorem L_lightAt {l : List S55} (h : ∀ x ∈ l, 0 ≤ x.f1 ∧ x.f1 ≤ 36) (hn : l.length ≤ 100) {i : Int} (i0 : 0 ≤ i) (i1 : i < 64) : rd (D_light l) i = D_in (D_sumAt i l) := by
  rw [D_light_rd l i0 i1, L_timesAt h hn i0 i1]

theorem L_inTmv {k : Int} (h : 0 ≤ k ∧ k ≤ 36) : D_in (tmv k) = k :=
  (L_inUnique (k := k) (by omega) (fun _ => Int.le_refl _) (fun q => L_tmvLt h.1 (by omega) (by omega))).symm

theorem L_inMono {s t : Int} (h : s ≤ t) : D_in s ≤ D_in t := by
  obtain ⟨a1, a2, a3, a4⟩ := L_inSpec s
  obtain ⟨b1, b2, b3, b4⟩ := L_inSpec t
  by_cases q : D_in s ≤ D_in t
  · exact q
  · have c := a3 (by omega)
    have d := b4 (by omega)
    have := L_tmvMono (i := D_in t + 1) (j := D_in s) (by omega) (by omega) a2
    omega
end Go.Proofs.YtjonocgmofcieaaGreatDoor.Q
