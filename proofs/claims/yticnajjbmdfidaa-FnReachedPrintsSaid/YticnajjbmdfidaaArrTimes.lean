-- The times of steps on the 64 cells.
import Derived.Test.YticnajjbmdfidaaQx3
import Derived.Test.YticnajjbmdfidaaQx7
import Derived.Test.YticnajjbmdfidaaArrMask
namespace Go.Proofs.Yticnajjbmdfidaa.Q
open Go.RowKit Go.Proofs.YticnajjbmdfidaaW.PrintWords Go.Proofs.YticnajjbmdfidaaW.PrintLast Go.Proofs.YticnajjbmdfidaaW.PrintMore
set_option linter.unusedVariables false
set_option linter.unusedSimpArgs false
/-- one step's time t laid on the cells that mask m has, from cell k on, d cells -/
def D_innerFrom (m t : Int) : Nat → List Int → Int → List Int
  | 0, ys, _ => ys
  | d + 1, ys, k => D_innerFrom m t d (if D_bit m k then ys.set k.toNat (wrap64 (rd ys k + t)) else ys) (k + 1)
theorem D_inner_len (m t : Int) (d : Nat) : ∀ (ys : List Int) (k : Int), (D_innerFrom m t d ys k).length = ys.length := by
  induction d with
  | zero => intro ys k; rfl
  | succ d ih =>
    intro ys k
    unfold D_innerFrom
    rw [ih]
    split <;> simp
def D_timesFrom : List S76 → List Int → List Int
  | [], ys => ys
  | x :: r, ys => D_timesFrom r (D_innerFrom x.f0 (tmv x.f1) 64 ys 0)
theorem D_times_len : ∀ (l : List S76) (ys : List Int), (D_timesFrom l ys).length = ys.length
  | [], _ => rfl
  | x :: r, ys => by unfold D_timesFrom; rw [D_times_len r, D_inner_len]
def D_times (l : List S76) : List Int := D_timesFrom l (zer 64)
theorem D_timesLen (l : List S76) : (D_times l).length = 64 := by unfold D_times; rw [D_times_len]; exact zer_len 64
theorem D_times_drop {l : List S76} {i : Int} (h0 : 0 ≤ i) (h : i < l.length) (ys : List Int) :
    D_timesFrom (l.drop i.toNat) ys = D_timesFrom (l.drop (i + 1).toNat) (D_innerFrom (rd_T76 l i).f0 (tmv (rd_T76 l i).f1) 64 ys 0) := by
  have hdr : l.drop i.toNat = rd_T76 l i :: l.drop (i + 1).toNat := by
    rw [List.drop_eq_getElem_cons (by omega), show (i + 1).toNat = i.toNat + 1 by omega]
    congr 1
    unfold rd_T76
    rw [List.getD_eq_getElem?_getD, List.getElem?_eq_getElem (by omega)]; rfl
  rw [hdr]; rfl
theorem rd_T76_mem {l : List S76} {i : Int} (h0 : 0 ≤ i) (h : i < l.length) : rd_T76 l i ∈ l := by
  rw [show rd_T76 l i = l[i.toNat]'(by omega) by unfold rd_T76; rw [List.getD_eq_getElem?_getD, List.getElem?_eq_getElem (by omega)]; rfl]
  exact List.getElem_mem _
theorem D_spt : ∀ n : Nat, n < 37 → spec_l01Time.f n = some (tmv n) := by decide +kernel
theorem D_specTime {k : Int} (h : 0 ≤ k ∧ k ≤ 36) : spec_l01Time.f k = some (tmv k) := by
  obtain ⟨n, rfl⟩ : ∃ n : Nat, k = n := ⟨k.toNat, by omega⟩
  exact D_spt n (by omega)
theorem D_implTime {k : Int} (h : 0 ≤ k ∧ k ≤ 36) : impl_timeOf.f k = some (tmv k) := by
  unfold impl_timeOf.f; rw [if_pos h.1, if_pos h.2]
theorem D_has {m k : Int} (h0 : 0 ≤ k) (h1 : k < 64) : impl_has.f m k = some (decide (D_bit m k)) := by
  have e := shr_small (k := .u64) (x := m) (y := k) rfl (by simp [IntKind.bits]; omega)
  unfold impl_has.f D_bit
  rw [if_pos h0, ← e]
  by_cases h : Go.bits .and .u64 (m / 2 ^ k.toNat) 1 = 1
  · rw [decide_eq_true h]; simp [h]
  · rw [decide_eq_false h]; simp [h]
set_option maxHeartbeats 8000000 in
set_option maxRecDepth 100000 in
theorem spec_l03Times.arr (A0 : Option Addr) (c0 : Nat) (l : List S76) (w : World) (hr : Kd.C k76 w A0 l.length l) (hc : l.length ≤ c0) (hth : ∀ x ∈ l, 0 ≤ x.f1 ∧ x.f1 ≤ 36) :
    Calls Try.prog 54 #[.slice A0 l.length c0] w fun e w' => e = .returned (.agg (nums .i64 (D_times l)).toArray) ∧ Below w.heap.size w w' := by
  have HR := Aside0.mk hr
  have HC := Aside0.mk hc
  have HT := Aside0.mk hth
  have HZ0 := Aside0.mk (ArrAt.new w 24 .i64 (zer 64))
  have HB0 := Aside0.mk ((Below.refl w.heap.size w).alloc (Nat.le_refl _) (.cells (nums .i64 (zer 64)).toArray 24))
  have HO1 := Aside0.mk (ArrAt.newAt (W := w.alloc (.cells (nums .i64 (zer 64)).toArray 24)) (g := w.heap.size + 1) (by simp) 24 .i64 (zer 64))
  clear hr hc hth
  go_enter Try.func54, Try.ntmps54
  go_wp2_with (first | (refine arr_store rfl 24 _ _ rfl (w.heap.size + 1) .i64 (zer 64) rfl rfl 24 (zer 64) HO1.out 64 (by kernel_rfl) (zer_len 64) (zer_len 64) ?_))
  go_loopg [4] l.length (fun kq v4 w' => ∃ (i : Int) (ys : List Int) (W : World), W = w' ∧ v4 = .int .i64 i ∧ Aside0 (0 ≤ i ∧ i ≤ l.length ∧ (kq : Int) = l.length - i) ∧ Aside0 (ys.length = 64 ∧ D_timesFrom l (zer 64) = D_timesFrom (l.drop i.toNat) ys) ∧
      Aside0 (ArrAt W w.heap.size 24 .i64 (zer 64)) ∧ Aside0 (ArrAt W (w.heap.size + 1) 24 .i64 ys) ∧ Aside0 (Below w.heap.size w W))
  case atStart => exact ⟨0, zer 64, _, rfl, rfl, ⟨by omega⟩, ⟨zer_len 64, rfl⟩, ⟨(HZ0.out.alloc _).rowOther (by omega) _⟩, ⟨HO1.out.row⟩, ⟨below_row (below_alloc HB0.out _) (by omega) _⟩⟩
  case round =>
    clear HZ0 HO1 HB0
    obtain ⟨i, ys, W, rfl, rfl, HI, HY, HZ, HO, HB⟩ := hrel
    cases gk with
    | zero =>
      have hge : (l.length : Int) ≤ i := by have := HI.out; omega
      have HL2 := Aside0.mk HY.out.1
      have HYS := Aside0.mk (show D_times l = ys by unfold D_times; rw [HY.out.2, List.drop_eq_nil_of_le (by omega)]; rfl)
      go_wp2_with (first | (refine arr_load rfl 24 _ rfl (w.heap.size + 1) rfl 24 .i64 ys HO.out _ Try.underlying24 rfl 64 (by kernel_rfl) HL2.out ?_) | (refine arr_store rfl 24 _ _ rfl w.heap.size .i64 ys rfl rfl 24 (zer 64) HZ.out 64 (by kernel_rfl) (zer_len 64) HL2.out ?_))
      refine bodyPost_ret (results_cell_row rfl _ _ w.heap.size 24 (nums .i64 ys).toArray (0, 0) _ rfl HZ.out.row Try.underlying24 rfl (by rw [show (Array.size (nums .i64 ys).toArray) = 64 by simp [nums, HL2.out]]; kernel_rfl)) rfl ?_
      exact ⟨by rw [HYS.out], below_row HB.out (Nat.le_refl _) _⟩
    | succ k1 =>
      have hlt : i < (l.length : Int) := by have := HI.out; omega
      have h0 := HI.out.1
      have HTX := Aside0.mk (D_specTime (HT.out _ (rd_T76_mem h0 hlt)))
      have HDR := Aside0.mk (D_times_drop h0 hlt ys)
      have HWR := Aside0.mk (show IntKind.i64.wrap (rd_T76 l i).f1 = (rd_T76 l i).f1 by have := HT.out _ (rd_T76_mem h0 hlt); simp [IntKind.wrap, IntKind.bits, IntKind.signed]; omega)
      go_wp2_with fail
      go_loopg [5] 64 (fun kj v5 w' => ∃ (j : Int) (zs : List Int) (V : World), V = w' ∧ v5 = .int .i64 j ∧ Aside0 (0 ≤ j ∧ j + kj = 64) ∧ Aside0 (zs.length = 64 ∧ D_innerFrom (rd_T76 l i).f0 (tmv (rd_T76 l i).f1) 64 ys 0 = D_innerFrom (rd_T76 l i).f0 (tmv (rd_T76 l i).f1) kj zs j) ∧
        Aside0 (ArrAt V w.heap.size 24 .i64 (zer 64)) ∧ Aside0 (ArrAt V (w.heap.size + 1) 24 .i64 zs) ∧ Aside0 (Below w.heap.size w V))
      case atStart => exact ⟨0, ys, _, rfl, rfl, ⟨by omega⟩, ⟨HY.out.1, rfl⟩, HZ, HO, HB⟩
      case round =>
        clear HZ HO HB
        obtain ⟨j, zs, V, rfl, rfl, HJ, HK, HZ, HO, HB⟩ := hrel
        cases gk with
        | zero =>
          have hdec : decide (j < 64) = false := decide_eq_false (by have := HJ.out; omega)
          have hge : 64 ≤ j := by have := HJ.out; omega
          have hmx := Kd.C_max HR.out
          have e9 : wrap64 (i + 1) = i + 1 := by unfold wrap64; omega
          have E9 := Aside0.mk e9
          clear e9
          go_wp2_with fail
          go_roundg k1
          case measure => omega
          case rel =>
            refine ⟨i + 1, zs, _, rfl, rfl, ⟨by have := HI.out; omega⟩, ⟨HK.out.1, ?_⟩, HZ, HO, HB⟩
            rw [HY.out.2, HDR.out, HK.out.2]; rfl
        | succ j1 =>
          have j0 := HJ.out.1
          have hj : j < 64 := by have := HJ.out; omega
          obtain ⟨ad, e0, hcell0, hcell1⟩ := at_T76 (Kd.C_below HR.out HB.out) i h0 hlt
          cases e0
          have hju : IntKind.u64.wrap j = j := by simp [IntKind.wrap, IntKind.bits, IntKind.signed]; omega
          by_cases hbit : D_bit (rd_T76 l i).f0 j
          · have hb1 : (Go.bits .and .u64 ((rd_T76 l i).f0 / 2 ^ j.toNat) 1 == 1) = true := by unfold D_bit at hbit; simp [hbit]
            have c1 : V.cell? ⟨w.heap.size + 1, j.toNat, none⟩ = some (.int .i64 (rd zs j)) := HO.out.cell j0 (by rw [HK.out.1]; omega)
            have f1 := HO.out.frozen j.toNat
            have HBT := Aside0.mk hbit
            clear hbit
            go_wp2_with fail
            have hs1 : V.drew.cell? ⟨(ad.add (i.toNat * 2)).block, (ad.add (i.toNat * 2)).off + 1, none⟩ = some (.int .i8 (rd_T76 l i).f1) := by simpa using hcell1
            obtain ⟨ad2, e2, _, hcw⟩ := at_T76 HR.out i h0 hlt
            cases e2
            have HCW := Aside0.mk (fun (W' : World) (h : Below w.heap.size w W') => (h.cell (p := ⟨(ad.add (i.toNat * 2)).block, (ad.add (i.toNat * 2)).off + 1, none⟩) (World.block_lt_of_cell? w ⟨(ad.add (i.toNat * 2)).block, (ad.add (i.toNat * 2)).off + 1, none⟩ hcw)).trans hcw)
            clear hcw
            refine wp_region_held_drew (S := fun w' => w'.cell? ⟨(ad.add (i.toNat * 2)).block, (ad.add (i.toNat * 2)).off + 1, none⟩ = some (.int .i8 (rd_T76 l i).f1)) (by kernel_rfl) hs1 (fun hHeld => ?_)
            have hwr := HWR.out
            refine wpAnyH_take (i := 0) (v := ?_) rfl (by kernel_rfl) (by kernel_rfl) (by kernel_rfl) (fun _ _ _ h => h) (Or.inl ⟨by rfl, ?_⟩) (by assumption) ?_
            rotate_left
            · intro w hSw
              go_simp
              with_reducible rfl
            try simp only [List.getElem_toArray, List.getElem_cons_succ, List.getElem_cons_zero, Act.put, List.setIfInBounds_toArray, List.set_cons_zero, List.set_cons_succ]
            refine wpAnyH_take (i := 1) (v := ?_) rfl (by kernel_rfl) (by kernel_rfl) (by kernel_rfl) (fun _ _ _ h => h) (Or.inl ⟨by rfl, ?_⟩) (by assumption) ?_
            rotate_left
            · intro w hSw
              go_simp
              with_reducible rfl
            try simp only [List.getElem_toArray, List.getElem_cons_succ, List.getElem_cons_zero, Act.put, List.setIfInBounds_toArray, List.set_cons_zero, List.set_cons_succ]
            refine wpAnyH_take (i := 3) (v := ?_) rfl (by kernel_rfl) (by kernel_rfl) (by kernel_rfl) (fun _ _ _ h => h) (Or.inl ⟨by rfl, ?_⟩) (by assumption) ?_
            rotate_left
            · intro w hSw
              go_simp
              with_reducible rfl
            try simp only [List.getElem_toArray, List.getElem_cons_succ, List.getElem_cons_zero, Act.put, List.setIfInBounds_toArray, List.set_cons_zero, List.set_cons_succ]
            refine wpAnyH_take (i := 4) (v := ?_) rfl (by kernel_rfl) (by kernel_rfl) (by kernel_rfl) (fun _ _ _ h => h) (Or.inl ⟨by rfl, ?_⟩) (by assumption) ?_
            rotate_left
            · intro w hSw
              go_simp
              with_reducible rfl
            try simp only [List.getElem_toArray, List.getElem_cons_succ, List.getElem_cons_zero, Act.put, List.setIfInBounds_toArray, List.set_cons_zero, List.set_cons_succ]
            refine wpAnyH_take (i := 5) (v := ?_) rfl (by kernel_rfl) (by kernel_rfl) (by kernel_rfl) (fun _ _ _ h => h) (Or.inl ⟨by rfl, ?_⟩) (by assumption) ?_
            rotate_left
            · intro w hSw
              go_simp
              with_reducible rfl
            try simp only [List.getElem_toArray, List.getElem_cons_succ, List.getElem_cons_zero, Act.put, List.setIfInBounds_toArray, List.set_cons_zero, List.set_cons_succ]
            refine wpAnyH_take (i := 6) (v := ?_) rfl (by kernel_rfl) (by kernel_rfl) (by kernel_rfl) (fun _ _ _ h => h) (Or.inl ⟨by rfl, ?_⟩) (by assumption) ?_
            rotate_left
            · intro w hSw
              go_simp
              with_reducible rfl
            try simp only [List.getElem_toArray, List.getElem_cons_succ, List.getElem_cons_zero, Act.put, List.setIfInBounds_toArray, List.set_cons_zero, List.set_cons_succ]
            refine wpAnyH_take (i := 7) (v := ?_) rfl (by kernel_rfl) (by kernel_rfl) (by kernel_rfl) (fun _ _ _ h => h) (Or.inl ⟨by rfl, ?_⟩) (by assumption) ?_
            rotate_left
            · intro w hSw
              go_simp
              with_reducible rfl
            try simp only [List.getElem_toArray, List.getElem_cons_succ, List.getElem_cons_zero, Act.put, List.setIfInBounds_toArray, List.set_cons_zero, List.set_cons_succ]
            refine wpAnyH_take (i := 8) (v := ?_) rfl (by kernel_rfl) (by kernel_rfl) (by kernel_rfl) (fun _ _ _ h => h) (Or.inl ⟨by rfl, ?_⟩) (by assumption) ?_
            rotate_left
            · intro w hSw
              go_simp
              with_reducible rfl
            try simp only [List.getElem_toArray, List.getElem_cons_succ, List.getElem_cons_zero, Act.put, List.setIfInBounds_toArray, List.set_cons_zero, List.set_cons_succ]
            have c2 : V.drew.cell? ⟨w.heap.size + 1, j.toNat, none⟩ = some (.int .i64 (rd zs j)) := by simpa using c1
            refine wpAnyH_ready (rs := [2, 9]) (by kernel_rfl) (by simp) ?_
            refine AllReadyH.cons rfl (fun K hK => ?_) (AllReadyH.cons rfl (fun K hK => ?_) AllReadyH.nil)
            · go_simp
              refine hK.out _ _ hHeld (fun hHeld => ?_)
              clear hK K
              try simp only [List.getElem_toArray, List.getElem_cons_succ, List.getElem_cons_zero, Act.put, List.setIfInBounds_toArray, List.set_cons_zero, List.set_cons_succ]
              refine wpAnyH_ready (rs := [9]) (by kernel_rfl) (by simp) ?_
              refine AllReadyH.cons rfl (fun K hK => ?_) AllReadyH.nil
              go_simp
              refine (spec_l01Time.calls _ _ _ HTX.out).mono ?_
              rintro e w1 ⟨rfl, hb⟩
              have HB1 := Aside0.mk (below_step (below_drew1 HB.out) hb)
              have HO1 := Aside0.mk (ArrAt.below (W := V.drew) HO.out hb)
              have HZ1 := Aside0.mk (ArrAt.below (W := V.drew) HZ.out hb)
              have hs2 : w1.cell? ⟨(ad.add (i.toNat * 2)).block, (ad.add (i.toNat * 2)).off + 1, none⟩ = some (.int .i8 (rd_T76 l i).f1) := HCW.out _ HB1.out
              clear hb
              go_wp2_with fail
              refine hK.out _ _ hs2 (fun hHeld => ?_)
              clear hK K
              try simp only [List.getElem_toArray, List.getElem_cons_succ, List.getElem_cons_zero, Act.put, List.setIfInBounds_toArray, List.set_cons_zero, List.set_cons_succ]
              have c3 : w1.cell? ⟨w.heap.size + 1, j.toNat, none⟩ = some (.int .i64 (rd zs j)) := HO1.out.cell j0 (by rw [HK.out.1]; omega)
              have f3 := HO1.out.frozen j.toNat
              refine wpAnyH_take (i := 10) (v := ?_) rfl (by kernel_rfl) (by kernel_rfl) (by kernel_rfl) (fun _ _ _ h => h) (Or.inl ⟨by rfl, ?_⟩) (by assumption) ?_
              rotate_left
              · intro w hSw
                go_simp
                with_reducible rfl
              try simp only [List.getElem_toArray, List.getElem_cons_succ, List.getElem_cons_zero, Act.put, List.setIfInBounds_toArray, List.set_cons_zero, List.set_cons_succ]
              refine wpAnyH_take (i := 11) (v := ?_) rfl (by kernel_rfl) (by kernel_rfl) (by kernel_rfl) (fun _ _ _ h => h) (Or.inl ⟨by rfl, ?_⟩) (by assumption) ?_
              rotate_left
              · intro w hSw
                go_simp
                with_reducible rfl
              try simp only [List.getElem_toArray, List.getElem_cons_succ, List.getElem_cons_zero, Act.put, List.setIfInBounds_toArray, List.set_cons_zero, List.set_cons_succ]
              refine wpAnyH_ready (rs := [12]) (by kernel_rfl) (by simp) ?_
              refine AllReadyH.cons rfl (fun K hK => ?_) AllReadyH.nil
              go_simp
              refine hK.out _ _ (HCW.out _ (below_set HB1.out (show w.heap.size ≤ w.heap.size + 1 by omega))) (fun hHeld => ?_)
              clear hK K c1 c2 c3 f1 f3 hs1 hs2 hwr
              try simp only [List.getElem_toArray, List.getElem_cons_succ, List.getElem_cons_zero, Act.put, List.setIfInBounds_toArray, List.set_cons_zero, List.set_cons_succ]
              refine wpAnyH_done (by kernel_rfl) ?_ _
              clear hHeld hcell0
              go_wp2_with fail
              go_roundg j1
              case measure => omega
              case rel => exact ⟨j + 1, zs.set j.toNat (wrap64 (rd zs j + tmv (rd_T76 l i).f1)), _, rfl, rfl, ⟨by have := HJ.out; omega⟩, ⟨by simpa using HK.out.1, by rw [HK.out.2]; simp only [D_innerFrom]; rw [if_pos HBT.out]⟩, ⟨HZ1.out.other (by omega) _ _⟩, ⟨HO1.out.set j _⟩, ⟨below_set HB1.out (by omega)⟩⟩
            · go_simp
              refine (spec_l01Time.calls _ _ _ HTX.out).mono ?_
              rintro e w1 ⟨rfl, hb⟩
              have HB1 := Aside0.mk (below_step (below_drew1 HB.out) hb)
              have HO1 := Aside0.mk (ArrAt.below (W := V.drew) HO.out hb)
              have HZ1 := Aside0.mk (ArrAt.below (W := V.drew) HZ.out hb)
              have hs2 : w1.cell? ⟨(ad.add (i.toNat * 2)).block, (ad.add (i.toNat * 2)).off + 1, none⟩ = some (.int .i8 (rd_T76 l i).f1) := HCW.out _ HB1.out
              clear hb
              go_wp2_with fail
              refine hK.out _ _ hs2 (fun hHeld => ?_)
              clear hK K
              try simp only [List.getElem_toArray, List.getElem_cons_succ, List.getElem_cons_zero, Act.put, List.setIfInBounds_toArray, List.set_cons_zero, List.set_cons_succ]
              have c3 : w1.cell? ⟨w.heap.size + 1, j.toNat, none⟩ = some (.int .i64 (rd zs j)) := HO1.out.cell j0 (by rw [HK.out.1]; omega)
              have f3 := HO1.out.frozen j.toNat
              refine wpAnyH_ready (rs := [2]) (by kernel_rfl) (by simp) ?_
              refine AllReadyH.cons rfl (fun K hK => ?_) AllReadyH.nil
              go_simp
              refine hK.out _ _ hs2 (fun hHeld => ?_)
              clear hK K
              try simp only [List.getElem_toArray, List.getElem_cons_succ, List.getElem_cons_zero, Act.put, List.setIfInBounds_toArray, List.set_cons_zero, List.set_cons_succ]
              refine wpAnyH_take (i := 10) (v := ?_) rfl (by kernel_rfl) (by kernel_rfl) (by kernel_rfl) (fun _ _ _ h => h) (Or.inl ⟨by rfl, ?_⟩) (by assumption) ?_
              rotate_left
              · intro w hSw
                go_simp
                with_reducible rfl
              try simp only [List.getElem_toArray, List.getElem_cons_succ, List.getElem_cons_zero, Act.put, List.setIfInBounds_toArray, List.set_cons_zero, List.set_cons_succ]
              refine wpAnyH_take (i := 11) (v := ?_) rfl (by kernel_rfl) (by kernel_rfl) (by kernel_rfl) (fun _ _ _ h => h) (Or.inl ⟨by rfl, ?_⟩) (by assumption) ?_
              rotate_left
              · intro w hSw
                go_simp
                with_reducible rfl
              try simp only [List.getElem_toArray, List.getElem_cons_succ, List.getElem_cons_zero, Act.put, List.setIfInBounds_toArray, List.set_cons_zero, List.set_cons_succ]
              refine wpAnyH_ready (rs := [12]) (by kernel_rfl) (by simp) ?_
              refine AllReadyH.cons rfl (fun K hK => ?_) AllReadyH.nil
              go_simp
              refine hK.out _ _ (HCW.out _ (below_set HB1.out (show w.heap.size ≤ w.heap.size + 1 by omega))) (fun hHeld => ?_)
              clear hK K c1 c2 c3 f1 f3 hs1 hs2 hwr
              try simp only [List.getElem_toArray, List.getElem_cons_succ, List.getElem_cons_zero, Act.put, List.setIfInBounds_toArray, List.set_cons_zero, List.set_cons_succ]
              refine wpAnyH_done (by kernel_rfl) ?_ _
              clear hHeld hcell0
              go_wp2_with fail
              go_roundg j1
              case measure => omega
              case rel => exact ⟨j + 1, zs.set j.toNat (wrap64 (rd zs j + tmv (rd_T76 l i).f1)), _, rfl, rfl, ⟨by have := HJ.out; omega⟩, ⟨by simpa using HK.out.1, by rw [HK.out.2]; simp only [D_innerFrom]; rw [if_pos HBT.out]⟩, ⟨HZ1.out.other (by omega) _ _⟩, ⟨HO1.out.set j _⟩, ⟨below_set HB1.out (by omega)⟩⟩
          · have hb1 : (Go.bits .and .u64 ((rd_T76 l i).f0 / 2 ^ j.toNat) 1 == 1) = false := by unfold D_bit at hbit; simp [hbit]
            have HBT := Aside0.mk hbit
            clear hbit
            go_wp2_with fail
            go_roundg j1
            case measure => omega
            case rel => exact ⟨j + 1, zs, _, rfl, rfl, ⟨by have := HJ.out; omega⟩, ⟨HK.out.1, by rw [HK.out.2]; simp only [D_innerFrom]; rw [if_neg HBT.out]⟩, HZ, HO, HB⟩
set_option maxHeartbeats 8000000 in
set_option maxRecDepth 100000 in
theorem impl_timesOn.arr (A0 : Option Addr) (c0 : Nat) (l : List S76) (w : World) (hr : Kd.C k76 w A0 l.length l) (hc : l.length ≤ c0) (hth : ∀ x ∈ l, 0 ≤ x.f1 ∧ x.f1 ≤ 36) :
    Calls Try.prog 57 #[.slice A0 l.length c0] w fun e w' => e = .returned (.agg (nums .i64 (D_times l)).toArray) ∧ Below w.heap.size w w' := by
  have HR := Aside0.mk hr
  have HC := Aside0.mk hc
  have HT := Aside0.mk hth
  have HZ0 := Aside0.mk (ArrAt.new w 24 .i64 (zer 64))
  have HB0 := Aside0.mk ((Below.refl w.heap.size w).alloc (Nat.le_refl _) (.cells (nums .i64 (zer 64)).toArray 24))
  have HO1 := Aside0.mk (ArrAt.newAt (W := w.alloc (.cells (nums .i64 (zer 64)).toArray 24)) (g := w.heap.size + 1) (by simp) 24 .i64 (zer 64))
  clear hr hc hth
  go_enter Try.func57, Try.ntmps57
  go_wp2_with (first | (refine arr_store rfl 24 _ _ rfl (w.heap.size + 1) .i64 (zer 64) rfl rfl 24 (zer 64) HO1.out 64 (by kernel_rfl) (zer_len 64) (zer_len 64) ?_))
  go_loopg [10] l.length (fun kq v10 w' => ∃ (i : Int) (ys : List Int) (W : World), W = w' ∧ v10 = .int .i64 i ∧ Aside0 (0 ≤ i ∧ i ≤ l.length ∧ (kq : Int) = l.length - i) ∧ Aside0 (ys.length = 64 ∧ D_timesFrom l (zer 64) = D_timesFrom (l.drop i.toNat) ys) ∧
      Aside0 (ArrAt W w.heap.size 24 .i64 (zer 64)) ∧ Aside0 (ArrAt W (w.heap.size + 1) 24 .i64 ys) ∧ Aside0 (Below w.heap.size w W))
  case atStart => exact ⟨0, zer 64, _, rfl, rfl, ⟨by omega⟩, ⟨zer_len 64, rfl⟩, ⟨(HZ0.out.alloc _).rowOther (by omega) _⟩, ⟨HO1.out.row⟩, ⟨below_row (below_alloc HB0.out _) (by omega) _⟩⟩
  case round =>
    clear HZ0 HO1 HB0
    obtain ⟨i, ys, W, rfl, rfl, HI, HY, HZ, HO, HB⟩ := hrel
    cases gk with
    | zero =>
      have hge : (l.length : Int) ≤ i := by have := HI.out; omega
      have HL2 := Aside0.mk HY.out.1
      have HYS := Aside0.mk (show D_times l = ys by unfold D_times; rw [HY.out.2, List.drop_eq_nil_of_le (by omega)]; rfl)
      go_wp2_with (first | (refine arr_load rfl 24 _ rfl (w.heap.size + 1) rfl 24 .i64 ys HO.out _ Try.underlying24 rfl 64 (by kernel_rfl) HL2.out ?_) | (refine arr_store rfl 24 _ _ rfl w.heap.size .i64 ys rfl rfl 24 (zer 64) HZ.out 64 (by kernel_rfl) (zer_len 64) HL2.out ?_))
      refine bodyPost_ret (results_cell_row rfl _ _ w.heap.size 24 (nums .i64 ys).toArray (0, 0) _ rfl HZ.out.row Try.underlying24 rfl (by rw [show (Array.size (nums .i64 ys).toArray) = 64 by simp [nums, HL2.out]]; kernel_rfl)) rfl ?_
      exact ⟨by rw [HYS.out], below_row HB.out (Nat.le_refl _) _⟩
    | succ k1 =>
      have hlt : i < (l.length : Int) := by have := HI.out; omega
      have h0 := HI.out.1
      have HTX := Aside0.mk (D_implTime (HT.out _ (rd_T76_mem h0 hlt)))
      have HDR := Aside0.mk (D_times_drop h0 hlt ys)
      have HWR := Aside0.mk (show IntKind.i64.wrap (rd_T76 l i).f1 = (rd_T76 l i).f1 by have := HT.out _ (rd_T76_mem h0 hlt); simp [IntKind.wrap, IntKind.bits, IntKind.signed]; omega)
      obtain ⟨ad, e0, hcell0, hcell1⟩ := at_T76 (Kd.C_below HR.out HB.out) i h0 hlt
      cases e0
      go_wp2_with fail
      have HG := Aside0.mk (show w.heap.size + 1 < W.heap.size from HO.out.lt)
      have hba := below_alloc (Below.refl W.heap.size W) (.cells #[.int .u64 (rd_T76 l i).f0, .int .i8 (rd_T76 l i).f1] 76)
      have HX0 := Aside0.mk (show (W.alloc (.cells #[.int .u64 (rd_T76 l i).f0, .int .i8 (rd_T76 l i).f1] 76)).heap[W.heap.size]? = some (.cells #[.int .u64 (rd_T76 l i).f0, .int .i8 (rd_T76 l i).f1] 76 (0, 0)) from heap_alloc_new _ _)
      have HZ0 := Aside0.mk (HZ.out.below hba)
      have HO0 := Aside0.mk (HO.out.below hba)
      have HB0 := Aside0.mk (below_step HB.out hba)
      clear hba HZ HO HB hcell0 hcell1
      go_loopg [14] 64 (fun kj v14 w' => ∃ (j : Int) (zs : List Int) (V : World), V = w' ∧ v14 = .int .i64 j ∧ Aside0 (0 ≤ j ∧ j + kj = 64) ∧ Aside0 (zs.length = 64 ∧ D_innerFrom (rd_T76 l i).f0 (tmv (rd_T76 l i).f1) 64 ys 0 = D_innerFrom (rd_T76 l i).f0 (tmv (rd_T76 l i).f1) kj zs j) ∧
        Aside0 (V.heap[W.heap.size]? = some (.cells #[.int .u64 (rd_T76 l i).f0, .int .i8 (rd_T76 l i).f1] 76 (0, 0))) ∧ Aside0 (ArrAt V w.heap.size 24 .i64 (zer 64)) ∧ Aside0 (ArrAt V (w.heap.size + 1) 24 .i64 zs) ∧ Aside0 (Below w.heap.size w V))
      case atStart => exact ⟨0, ys, _, rfl, rfl, ⟨by omega⟩, ⟨HY.out.1, rfl⟩, HX0, HZ0, HO0, HB0⟩
      case round =>
        clear HX0 HZ0 HO0 HB0
        obtain ⟨j, zs, V, rfl, rfl, HJ, HK, HX, HZ, HO, HB⟩ := hrel
        cases gk with
        | zero =>
          have hdec : decide (j < 64) = false := decide_eq_false (by have := HJ.out; omega)
          have hge : 64 ≤ j := by have := HJ.out; omega
          have hmx := Kd.C_max HR.out
          have e9 : wrap64 (i + 1) = i + 1 := by unfold wrap64; omega
          have E9 := Aside0.mk e9
          clear e9
          go_wp2_with fail
          go_roundg k1
          case measure => omega
          case rel =>
            refine ⟨i + 1, zs, _, rfl, rfl, ⟨by have := HI.out; omega⟩, ⟨HK.out.1, ?_⟩, HZ, HO, HB⟩
            rw [HY.out.2, HDR.out, HK.out.2]; rfl
        | succ j1 =>
          have j0 := HJ.out.1
          have hj : j < 64 := by have := HJ.out; omega
          have x0 : V.cell? ⟨W.heap.size, 0, none⟩ = some (.int .u64 (rd_T76 l i).f0) := (blk_cell HX.out 0).trans rfl
          go_wp2_with fail
          refine (impl_has.calls _ _ _ _ (D_has j0 hj)).mono ?_
          rintro e w1 ⟨rfl, hb⟩
          have HX1 := Aside0.mk (blk_below HX.out hb.below)
          have HZ1 := Aside0.mk (HZ.out.below hb.below)
          have HO1 := Aside0.mk (HO.out.below hb.below)
          have HB1 := Aside0.mk (below_step HB.out hb.below)
          clear hb HX HZ HO HB x0
          by_cases hbit : D_bit (rd_T76 l i).f0 j
          · have hdd : decide (D_bit (rd_T76 l i).f0 j) = true := decide_eq_true hbit
            have HBT := Aside0.mk hbit
            clear hbit
            have hs0 : w1.cell? ⟨W.heap.size, 1, none⟩ = some (.int .i8 (rd_T76 l i).f1) := (blk_cell HX1.out 1).trans rfl
            have hs1 : w1.drew.cell? ⟨W.heap.size, 1, none⟩ = some (.int .i8 (rd_T76 l i).f1) := by simpa using hs0
            have c1 : w1.cell? ⟨w.heap.size + 1, j.toNat, none⟩ = some (.int .i64 (rd zs j)) := HO1.out.cell j0 (by rw [HK.out.1]; omega)
            go_wp2_with fail
            refine wp_region_held_drew (S := fun w' => w'.cell? ⟨W.heap.size, 1, none⟩ = some (.int .i8 (rd_T76 l i).f1)) (by kernel_rfl) hs1 (fun hHeld => ?_)
            have hwr := HWR.out
            refine wpAnyH_take (i := 0) (v := ?_) rfl (by kernel_rfl) (by kernel_rfl) (by kernel_rfl) (fun _ _ _ h => h) (Or.inl ⟨by rfl, ?_⟩) (by assumption) ?_
            rotate_left
            · intro w hSw
              go_simp
              with_reducible rfl
            try simp only [List.getElem_toArray, List.getElem_cons_succ, List.getElem_cons_zero, Act.put, List.setIfInBounds_toArray, List.set_cons_zero, List.set_cons_succ]
            refine wpAnyH_take (i := 1) (v := ?_) rfl (by kernel_rfl) (by kernel_rfl) (by kernel_rfl) (fun _ _ _ h => h) (Or.inl ⟨by rfl, ?_⟩) (by assumption) ?_
            rotate_left
            · intro w hSw
              go_simp
              with_reducible rfl
            try simp only [List.getElem_toArray, List.getElem_cons_succ, List.getElem_cons_zero, Act.put, List.setIfInBounds_toArray, List.set_cons_zero, List.set_cons_succ]
            refine wpAnyH_take (i := 3) (v := ?_) rfl (by kernel_rfl) (by kernel_rfl) (by kernel_rfl) (fun _ _ _ h => h) (Or.inl ⟨by rfl, ?_⟩) (by assumption) ?_
            rotate_left
            · intro w hSw
              go_simp
              with_reducible rfl
            try simp only [List.getElem_toArray, List.getElem_cons_succ, List.getElem_cons_zero, Act.put, List.setIfInBounds_toArray, List.set_cons_zero, List.set_cons_succ]
            refine wpAnyH_take (i := 4) (v := ?_) rfl (by kernel_rfl) (by kernel_rfl) (by kernel_rfl) (fun _ _ _ h => h) (Or.inl ⟨by rfl, ?_⟩) (by assumption) ?_
            rotate_left
            · intro w hSw
              go_simp
              with_reducible rfl
            try simp only [List.getElem_toArray, List.getElem_cons_succ, List.getElem_cons_zero, Act.put, List.setIfInBounds_toArray, List.set_cons_zero, List.set_cons_succ]
            refine wpAnyH_take (i := 5) (v := ?_) rfl (by kernel_rfl) (by kernel_rfl) (by kernel_rfl) (fun _ _ _ h => h) (Or.inl ⟨by rfl, ?_⟩) (by assumption) ?_
            rotate_left
            · intro w hSw
              go_simp
              with_reducible rfl
            try simp only [List.getElem_toArray, List.getElem_cons_succ, List.getElem_cons_zero, Act.put, List.setIfInBounds_toArray, List.set_cons_zero, List.set_cons_succ]
            have c2 : w1.drew.cell? ⟨w.heap.size + 1, j.toNat, none⟩ = some (.int .i64 (rd zs j)) := by simpa using c1
            refine wpAnyH_ready (rs := [2, 6]) (by kernel_rfl) (by simp) ?_
            refine AllReadyH.cons rfl (fun K hK => ?_) (AllReadyH.cons rfl (fun K hK => ?_) AllReadyH.nil)
            · go_simp
              refine hK.out _ _ hHeld (fun hHeld => ?_)
              clear hK K
              try simp only [List.getElem_toArray, List.getElem_cons_succ, List.getElem_cons_zero, Act.put, List.setIfInBounds_toArray, List.set_cons_zero, List.set_cons_succ]
              refine wpAnyH_ready (rs := [6]) (by kernel_rfl) (by simp) ?_
              refine AllReadyH.cons rfl (fun K hK => ?_) AllReadyH.nil
              go_simp
              refine (impl_timeOf.calls _ _ _ HTX.out).mono ?_
              rintro e w2 ⟨rfl, hb⟩
              have HB2 := Aside0.mk (below_step (below_drew1 HB1.out) hb.below)
              have HX2 := Aside0.mk (blk_below (w := w1.drew) HX1.out hb.below)
              have HO2 := Aside0.mk (ArrAt.below (W := w1.drew) HO1.out hb.below)
              have HZ2 := Aside0.mk (ArrAt.below (W := w1.drew) HZ1.out hb.below)
              have hs2 : w2.cell? ⟨W.heap.size, 1, none⟩ = some (.int .i8 (rd_T76 l i).f1) := (blk_cell HX2.out 1).trans rfl
              clear hb
              go_wp2_with fail
              refine hK.out _ _ hs2 (fun hHeld => ?_)
              clear hK K
              try simp only [List.getElem_toArray, List.getElem_cons_succ, List.getElem_cons_zero, Act.put, List.setIfInBounds_toArray, List.set_cons_zero, List.set_cons_succ]
              have c3 : w2.cell? ⟨w.heap.size + 1, j.toNat, none⟩ = some (.int .i64 (rd zs j)) := HO2.out.cell j0 (by rw [HK.out.1]; omega)
              have f3 := HO2.out.frozen j.toNat
              refine wpAnyH_take (i := 7) (v := ?_) rfl (by kernel_rfl) (by kernel_rfl) (by kernel_rfl) (fun _ _ _ h => h) (Or.inl ⟨by rfl, ?_⟩) (by assumption) ?_
              rotate_left
              · intro w hSw
                go_simp
                with_reducible rfl
              try simp only [List.getElem_toArray, List.getElem_cons_succ, List.getElem_cons_zero, Act.put, List.setIfInBounds_toArray, List.set_cons_zero, List.set_cons_succ]
              refine wpAnyH_take (i := 8) (v := ?_) rfl (by kernel_rfl) (by kernel_rfl) (by kernel_rfl) (fun _ _ _ h => h) (Or.inl ⟨by rfl, ?_⟩) (by assumption) ?_
              rotate_left
              · intro w hSw
                go_simp
                with_reducible rfl
              try simp only [List.getElem_toArray, List.getElem_cons_succ, List.getElem_cons_zero, Act.put, List.setIfInBounds_toArray, List.set_cons_zero, List.set_cons_succ]
              refine wpAnyH_ready (rs := [9]) (by kernel_rfl) (by simp) ?_
              refine AllReadyH.cons rfl (fun K hK => ?_) AllReadyH.nil
              go_simp
              refine hK.out _ _ ((blk_cell ((heap_setCell_other w2 ⟨w.heap.size + 1, j.toNat, none⟩ W.heap.size _ (by have := HG.out; simp; omega)).trans HX2.out) 1).trans rfl) (fun hHeld => ?_)
              clear hK K c1 c2 c3 f3 hs0 hs1 hs2 hwr
              try simp only [List.getElem_toArray, List.getElem_cons_succ, List.getElem_cons_zero, Act.put, List.setIfInBounds_toArray, List.set_cons_zero, List.set_cons_succ]
              refine wpAnyH_done (by kernel_rfl) ?_ _
              clear hHeld
              go_wp2_with fail
              go_roundg j1
              case measure => omega
              case rel => exact ⟨j + 1, zs.set j.toNat (wrap64 (rd zs j + tmv (rd_T76 l i).f1)), _, rfl, rfl, ⟨by have := HJ.out; omega⟩, ⟨by simpa using HK.out.1, by rw [HK.out.2]; simp only [D_innerFrom]; rw [if_pos HBT.out]⟩, ⟨(heap_setCell_other w2 ⟨w.heap.size + 1, j.toNat, none⟩ W.heap.size _ (by have := HG.out; simp; omega)).trans HX2.out⟩, ⟨HZ2.out.other (by omega) _ _⟩, ⟨HO2.out.set j _⟩, ⟨below_set HB2.out (by omega)⟩⟩
            · go_simp
              refine (impl_timeOf.calls _ _ _ HTX.out).mono ?_
              rintro e w2 ⟨rfl, hb⟩
              have HB2 := Aside0.mk (below_step (below_drew1 HB1.out) hb.below)
              have HX2 := Aside0.mk (blk_below (w := w1.drew) HX1.out hb.below)
              have HO2 := Aside0.mk (ArrAt.below (W := w1.drew) HO1.out hb.below)
              have HZ2 := Aside0.mk (ArrAt.below (W := w1.drew) HZ1.out hb.below)
              have hs2 : w2.cell? ⟨W.heap.size, 1, none⟩ = some (.int .i8 (rd_T76 l i).f1) := (blk_cell HX2.out 1).trans rfl
              clear hb
              go_wp2_with fail
              refine hK.out _ _ hs2 (fun hHeld => ?_)
              clear hK K
              try simp only [List.getElem_toArray, List.getElem_cons_succ, List.getElem_cons_zero, Act.put, List.setIfInBounds_toArray, List.set_cons_zero, List.set_cons_succ]
              have c3 : w2.cell? ⟨w.heap.size + 1, j.toNat, none⟩ = some (.int .i64 (rd zs j)) := HO2.out.cell j0 (by rw [HK.out.1]; omega)
              have f3 := HO2.out.frozen j.toNat
              refine wpAnyH_ready (rs := [2]) (by kernel_rfl) (by simp) ?_
              refine AllReadyH.cons rfl (fun K hK => ?_) AllReadyH.nil
              go_simp
              refine hK.out _ _ hs2 (fun hHeld => ?_)
              clear hK K
              try simp only [List.getElem_toArray, List.getElem_cons_succ, List.getElem_cons_zero, Act.put, List.setIfInBounds_toArray, List.set_cons_zero, List.set_cons_succ]
              refine wpAnyH_take (i := 7) (v := ?_) rfl (by kernel_rfl) (by kernel_rfl) (by kernel_rfl) (fun _ _ _ h => h) (Or.inl ⟨by rfl, ?_⟩) (by assumption) ?_
              rotate_left
              · intro w hSw
                go_simp
                with_reducible rfl
              try simp only [List.getElem_toArray, List.getElem_cons_succ, List.getElem_cons_zero, Act.put, List.setIfInBounds_toArray, List.set_cons_zero, List.set_cons_succ]
              refine wpAnyH_take (i := 8) (v := ?_) rfl (by kernel_rfl) (by kernel_rfl) (by kernel_rfl) (fun _ _ _ h => h) (Or.inl ⟨by rfl, ?_⟩) (by assumption) ?_
              rotate_left
              · intro w hSw
                go_simp
                with_reducible rfl
              try simp only [List.getElem_toArray, List.getElem_cons_succ, List.getElem_cons_zero, Act.put, List.setIfInBounds_toArray, List.set_cons_zero, List.set_cons_succ]
              refine wpAnyH_ready (rs := [9]) (by kernel_rfl) (by simp) ?_
              refine AllReadyH.cons rfl (fun K hK => ?_) AllReadyH.nil
              go_simp
              refine hK.out _ _ ((blk_cell ((heap_setCell_other w2 ⟨w.heap.size + 1, j.toNat, none⟩ W.heap.size _ (by have := HG.out; simp; omega)).trans HX2.out) 1).trans rfl) (fun hHeld => ?_)
              clear hK K c1 c2 c3 f3 hs0 hs1 hs2 hwr
              try simp only [List.getElem_toArray, List.getElem_cons_succ, List.getElem_cons_zero, Act.put, List.setIfInBounds_toArray, List.set_cons_zero, List.set_cons_succ]
              refine wpAnyH_done (by kernel_rfl) ?_ _
              clear hHeld
              go_wp2_with fail
              go_roundg j1
              case measure => omega
              case rel => exact ⟨j + 1, zs.set j.toNat (wrap64 (rd zs j + tmv (rd_T76 l i).f1)), _, rfl, rfl, ⟨by have := HJ.out; omega⟩, ⟨by simpa using HK.out.1, by rw [HK.out.2]; simp only [D_innerFrom]; rw [if_pos HBT.out]⟩, ⟨(heap_setCell_other w2 ⟨w.heap.size + 1, j.toNat, none⟩ W.heap.size _ (by have := HG.out; simp; omega)).trans HX2.out⟩, ⟨HZ2.out.other (by omega) _ _⟩, ⟨HO2.out.set j _⟩, ⟨below_set HB2.out (by omega)⟩⟩
          · have hdd : decide (D_bit (rd_T76 l i).f0 j) = false := decide_eq_false hbit
            have HBT := Aside0.mk hbit
            clear hbit
            go_wp2_with fail
            go_roundg j1
            case measure => omega
            case rel => exact ⟨j + 1, zs, _, rfl, rfl, ⟨by have := HJ.out; omega⟩, ⟨HK.out.1, by rw [HK.out.2]; simp only [D_innerFrom]; rw [if_neg HBT.out]⟩, HX1, HZ1, HO1, HB1⟩
end Go.Proofs.Yticnajjbmdfidaa.Q
