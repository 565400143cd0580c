-- The row of FnEveryPrint.
import Derived.Test.YtiehbagnebjadaaGreatDoorQx6
import Derived.Test.YtiehbagnebjadaaGreatDoorQx8
import Derived.Test.YtiehbagnebjadaaGreatDoorQx10
import Derived.Test.YtiehbagnebjadaaGreatDoorQx11
import Derived.Test.YtiehbagnebjadaaGreatDoorQx12
import Derived.Test.YtiehbagnebjadaaGreatDoorQx14
import Derived.Test.YtiehbagnebjadaaGreatDoorArrRedo
import Derived.Test.YtiehbagnebjadaaGreatDoorArrPLE
import Derived.Test.YtiehbagnebjadaaGreatDoorArrEq
namespace Go.Proofs.YtiehbagnebjadaaGreatDoor.Q
open Go.RowKit Go.Proofs.YtiehbagnebjadaaGreatDoor.PL Go.Proofs.YtiehbagnebjadaaGreatDoorW.PrintWords Go.Proofs.YtiehbagnebjadaaGreatDoorW.PrintLast Go.Proofs.YtiehbagnebjadaaGreatDoorW.PrintMore
attribute [local go_sem] max2_int min2_int max_two min_two max_three min_three max_four min_four
set_option linter.unusedVariables false
set_option linter.unusedSimpArgs false
theorem region_gen {P : Program} {ops : Array Oper} {Q : Exit → Act → World → Prop} {id : Nat} {a : Act} {w : World} {S : World → Prop} (hm : P.follows .mixedOrders = true) (hS : S w.drew) (h : ∀ V : World, S V → wpAnyH P .any ops Q S ops.size (Array.replicate ops.size false) a V) : (Code.region id ops true).wp P Q a w := wp_region_held_drew hm hS (fun hs => h _ hs)
theorem arr_wp_store {P : Program} {o : Oper} {a : Act} {W : World} {K : Act → World → Prop} {Q : Exit → Act → World → Prop} (ty : TypeId) (x y : Operand) (ho : o.op = .store ty x y) (g : Nat) (k : IntKind) (ys : List Int) (hx : a.eval x = .pointer (some ⟨g, 0, none⟩)) (hy : a.eval y = .agg (nums k ys).toArray)
  (T : TypeId) (xs : List Int) (hA : ArrAt W g T k xs) (n : Nat) (hi : (P.info? ty).map (·.size) = some n) (hn : xs.length = n) (hm : ys.length = n)
  (h : K (a.put o.dst undef) (W.setRow g (nums k ys).toArray)) : o.wp P a W K Q :=
 wp_store_row ty x y ho g _ hx hy T _ hA (by rw [hi, ← hm]; simp [nums]) (by simp [nums, hn, hm]) (by simp [nums]; intros; rfl) h
set_option maxHeartbeats 8000000 in
set_option maxRecDepth 100000 in
theorem laws_FnEveryPrint.arr (w : World) (xs : List Int) (hl : xs.length = 64) (h16 : ∀ x ∈ xs, -32768 ≤ x ∧ x ≤ 32767) (A1 : Option Addr) (c1 : Nat) (l : List S116) (hr1 : Kd.C k116 w A1 l.length l) (hc1 : l.length ≤ c1) (hw1 : ∀ x ∈ l, -32768 ≤ x.f0 ∧ x.f0 ≤ 32767 ∧ -32768 ≤ x.f1 ∧ x.f1 ≤ 32767) (yy1 : l.length * 4 ≤ 140737488351232)
  (A2 : Option Addr) (c2 : Nat) (st : List S89) (hr2 : Kd.C k89 w A2 st.length st) (hc2 : st.length ≤ c2) (hw2 : ∀ x ∈ st, 0 ≤ x.f0 ∧ x.f0 ≤ 18446744073709551615 ∧ -128 ≤ x.f1 ∧ x.f1 ≤ 127) (yy2 : st.length * 16 ≤ 140737488351232) (hT : Tab10 w) :
  Calls Tryz.prog 6 #[.agg (nums .i16 xs).toArray, .slice A1 l.length c1, .slice A2 st.length c2] w fun e w' => e = .returned (.bool true) ∧ Below w.heap.size w w' := by
 have HX := Aside0.mk hl
 have H16 := Aside0.mk h16
 have HC1 := Aside0.mk hc1
 have HC2 := Aside0.mk hc2
 have HTB := Aside0.mk hT
 have HRW1 := Aside0.mk hr1
 have HRW2 := Aside0.mk hr2
 have H1 := Aside0.mk (show D_i16s l from fun x hx => ⟨⟨(hw1 x hx).1, (hw1 x hx).2.1⟩, (hw1 x hx).2.2⟩)
 have N1 := Aside0.mk (show l.length ≤ 140737488351232 by omega)
 have H8 := Aside0.mk (show D_i8s st from fun x hx => (hw2 x hx).2.2)
 have N2 := Aside0.mk (show st.length ≤ 140737488351232 by omega)
 have HU := Aside0.mk (show D_u64s st from fun x hx => ⟨(hw2 x hx).1, by have := (hw2 x hx).2.1; omega⟩)
 have hba := (Below.refl w.heap.size w).alloc (Nat.le_refl _) (.cells (nums .i16 xs).toArray 37)
 have HA := Aside0.mk (ArrAt.new w 37 .i16 xs)
 have HB := Aside0.mk hba
 have HR1 := Aside0.mk (Kd.C_below hr1 hba)
 have HR2 := Aside0.mk (Kd.C_below hr2 hba)
 have h36 := yy2
 clear hl h16 hr1 hc1 hr2 hc2 hw1 hw2 hba yy1 yy2 hT h36
 by_cases hbig : (4096 : Int) < (st.length : Int)
 ·have hb1 : decide ((4096 : Int) < (st.length : Int)) = true := decide_eq_true hbig
  clear hbig
  go_enter Tryz.func6, Tryz.ntmps6
  go_wp2_with fail
  go_ret
  exact ⟨rfl, HB.out⟩
 ·have hb1 : decide ((4096 : Int) < (st.length : Int)) = false := decide_eq_false hbig
  clear hbig
  by_cases hok : D_printOk xs l st
  ·obtain ⟨Y, hY⟩ : ∃ Y, Y = D_from xs l st := ⟨_, rfl⟩
   have HV := Aside0.mk (show D_printFrom xs l st = (Y, 0) by rw [hY]; exact if_pos hok)
   have HY := Aside0.mk (show Y.length = 64 by rw [hY]; exact D_fromLen xs l st)
   have HD := Aside0.mk (show D_redo xs l st 0 = (Y, 0) by rw [hY]; exact (if_pos hok.1).trans (if_pos rfl))
   obtain ⟨e1, e2⟩ := L_everyOk l st ⟨hok.2.1, hok.2.2, HU.out⟩
   obtain ⟨T, hT⟩ : ∃ T, T = D_mk (D_TL l st) := ⟨_, rfl⟩
   rw [← hT] at e1 e2
   have HLT := Aside0.mk e1
   have HRT := Aside0.mk e2
   have HOK := Aside0.mk hok.2
   clear hok hY e1 e2 hT
   go_enter Tryz.func6, Tryz.ntmps6
   go_wp2_with (first | (refine arr_load rfl 37 _ rfl w.heap.size rfl 37 .i16 xs HA.out _ Tryz.underlying37 rfl 64 (by kernel_rfl) HX.out ?_))
   refine (impl_PrintFrom.arr xs HX.out H16.out _ _ l _ _ st _ HR1.out HC1.out HR2.out HC2.out H1.out N1.out H8.out N2.out).mono ?_
   rintro e w1 ⟨rfl, hb⟩
   rw [HV.out]
   have HA_1 := Aside0.mk (ArrAt.below HA.out hb)
   have HB_1 := Aside0.mk (below_step HB.out hb)
   have HR1_1 := Aside0.mk (Kd.C_below HR1.out hb)
   have HR2_1 := Aside0.mk (Kd.C_below HR2.out hb)
   clear hb HA HB HR1 HR2
   have HG0 := Aside0.mk (show w.heap.size ≤ w1.heap.size from Below.size HB_1.out)
   have G0_n := Aside0.mk (ArrAt.new w1 34 .i16 (zer 64))
   have G0_0 := Aside0.mk (G0_n.out.row (ys := Y))
   have hba := below_row (below_alloc (Below.refl w1.heap.size w1) (.cells (nums .i16 (zer 64)).toArray 34)) (Nat.le_refl w1.heap.size) (nums .i16 Y).toArray
   have HA_2 := Aside0.mk (ArrAt.below HA_1.out hba)
   have HB_2 := Aside0.mk (below_step HB_1.out hba)
   have HR1_2 := Aside0.mk (Kd.C_below HR1_1.out hba)
   have HR2_2 := Aside0.mk (Kd.C_below HR2_1.out hba)
   clear hba HA_1 HB_1 HR1_1 HR2_1
   go_wp2_with (first | (refine arr_store rfl 34 _ _ rfl w1.heap.size .i16 Y rfl rfl 34 (zer 64) G0_n.out 64 (by kernel_rfl) (zer_len 64) HY.out ?_) | (refine arr_load rfl 37 _ rfl w.heap.size rfl 37 .i16 xs HA_2.out _ Tryz.underlying37 rfl 64 (by kernel_rfl) HX.out ?_) | (refine arr_load rfl 34 _ rfl w1.heap.size rfl 34 .i16 Y G0_0.out _ Tryz.underlying34 rfl 64 (by kernel_rfl) HY.out ?_))
   refine (spec_PrintFrom.arr xs HX.out H16.out _ _ l _ _ st _ HR1_2.out HC1.out HR2_2.out HC2.out H1.out N1.out H8.out N2.out).mono ?_
   rintro e w3 ⟨rfl, hb⟩
   rw [HV.out]
   have HA_3 := Aside0.mk (ArrAt.below HA_2.out hb)
   have HB_3 := Aside0.mk (below_step HB_2.out hb)
   have HR1_3 := Aside0.mk (Kd.C_below HR1_2.out hb)
   have HR2_3 := Aside0.mk (Kd.C_below HR2_2.out hb)
   have G0_3 := Aside0.mk (ArrAt.below G0_0.out hb)
   clear hb HA_2 HB_2 HR1_2 HR2_2 G0_0
   have G1_n := Aside0.mk (ArrAt.new w3 34 .i16 (zer 64))
   have G1_0 := Aside0.mk (G1_n.out.row (ys := Y))
   have hba := below_row (below_alloc (Below.refl w3.heap.size w3) (.cells (nums .i16 (zer 64)).toArray 34)) (Nat.le_refl w3.heap.size) (nums .i16 Y).toArray
   have HA_4 := Aside0.mk (ArrAt.below HA_3.out hba)
   have HB_4 := Aside0.mk (below_step HB_3.out hba)
   have HR1_4 := Aside0.mk (Kd.C_below HR1_3.out hba)
   have HR2_4 := Aside0.mk (Kd.C_below HR2_3.out hba)
   have G0_4 := Aside0.mk (ArrAt.below G0_3.out hba)
   clear hba HA_3 HB_3 HR1_3 HR2_3 G0_3
   have qY := eq_prt Y HY.out
   go_wp2_with (first | (refine arr_store rfl 34 _ _ rfl w3.heap.size .i16 Y rfl rfl 34 (zer 64) G1_n.out 64 (by kernel_rfl) (zer_len 64) HY.out ?_) | (refine arr_loadG (by rfl) 37 _ rfl w.heap.size rfl 37 .i16 xs HA_4.out _ Tryz.underlying37 rfl 64 (by kernel_rfl) HX.out ?_) | (refine arr_loadG (by rfl) 34 _ rfl w1.heap.size rfl 34 .i16 Y G0_4.out _ Tryz.underlying34 rfl 64 (by kernel_rfl) HY.out ?_) | (refine arr_loadG (by rfl) 34 _ rfl w3.heap.size rfl 34 .i16 Y G1_0.out _ Tryz.underlying34 rfl 64 (by kernel_rfl) HY.out ?_) | (refine arr_load rfl 37 _ rfl w.heap.size rfl 37 .i16 xs HA_4.out _ Tryz.underlying37 rfl 64 (by kernel_rfl) HX.out ?_) | (refine arr_load rfl 34 _ rfl w1.heap.size rfl 34 .i16 Y G0_4.out _ Tryz.underlying34 rfl 64 (by kernel_rfl) HY.out ?_) | (refine arr_load rfl 34 _ rfl w3.heap.size rfl 34 .i16 Y G1_0.out _ Tryz.underlying34 rfl 64 (by kernel_rfl) HY.out ?_))
   clear qY
   have HLT0 := ArrAt.lt G0_4.out
   have HLE0 : w.heap.size ≤ w1.heap.size := HG0.out
   refine region_gen (S := (fun w' => ArrAt w' w.heap.size 37 .i16 xs ∧ ArrAt w' w1.heap.size 34 .i16 Y ∧ w.heap.size ≤ w1.heap.size ∧ w1.heap.size < w'.heap.size ∧ Below w.heap.size w w')) (by kernel_rfl) ⟨blk_drew HA_4.out, blk_drew G0_4.out, HLE0, HLT0, below_drew1 HB_4.out⟩ (fun V0 hHeld => ?_)
   clear HLT0 HLE0
   refine wpAnyH_take (i := 0) (v := .agg (nums .i16 xs).toArray) rfl (by kernel_rfl) (by kernel_rfl) (by kernel_rfl) (fun _ _ _ h => h) (yieldsIf_load_mid (by rfl) _ _ rfl _ _ rfl _ _ (fun w' h => ArrAt.range h.1) Tryz.underlying37 rfl (by rw [nums_length, HX.out]; kernel_rfl)) (by assumption) ?_
   try simp only [List.getElem_toArray, List.getElem_cons_succ, List.getElem_cons_zero, Act.put, List.setIfInBounds_toArray, List.set_cons_zero, List.set_cons_succ]
   refine wpAnyH_take (i := 1) (v := ?_) rfl (by kernel_rfl) (by kernel_rfl) (by kernel_rfl) (fun _ _ _ h => h) (Or.inl ⟨by rfl, ?_⟩) (by assumption) ?_
   rotate_left
   ·intro w hSw
    go_simp
    with_reducible rfl
   try simp only [List.getElem_toArray, List.getElem_cons_succ, List.getElem_cons_zero, Act.put, List.setIfInBounds_toArray, List.set_cons_zero, List.set_cons_succ]
   refine wpAnyH_take (i := 2) (v := ?_) rfl (by kernel_rfl) (by kernel_rfl) (by kernel_rfl) (fun _ _ _ h => h) (Or.inl ⟨by rfl, ?_⟩) (by assumption) ?_
   rotate_left
   ·intro w hSw
    go_simp
    with_reducible rfl
   try simp only [List.getElem_toArray, List.getElem_cons_succ, List.getElem_cons_zero, Act.put, List.setIfInBounds_toArray, List.set_cons_zero, List.set_cons_succ]
   refine wpAnyH_ready (rs := [3, 8]) (by kernel_rfl) (by simp) ?_
   refine AllReadyH.cons rfl (fun K hK => ?_) (AllReadyH.cons rfl (fun K hK => ?_) AllReadyH.nil)
   ·obtain ⟨q1, q2, q3, q4, q5⟩ := hHeld
    go_simp
    refine (impl_LogText.calls 100 _ _ l _ _ st T _ (Kd.C_below HRW1.out q5) HC1.out (Kd.C_below HRW2.out q5) HC2.out HLT.out (HTB.out.below q5)).mono ?_
    rintro e w5 ⟨rfl, hb⟩
    go_wp2_with fail
    refine hK.out _ _ ⟨q1.below hb, q2.below hb, q3, Nat.lt_of_lt_of_le q4 (Below.size hb), below_step q5 hb⟩ (fun hHeld => ?_)
    clear hK K hb q1 q2 q3 q4 q5
    try simp only [List.getElem_toArray, List.getElem_cons_succ, List.getElem_cons_zero, Act.put, List.setIfInBounds_toArray, List.set_cons_zero, List.set_cons_succ]
    refine wpAnyH_ready (rs := [4, 8]) (by kernel_rfl) (by simp) ?_
    refine AllReadyH.cons rfl (fun K hK => ?_) (AllReadyH.cons rfl (fun K hK => ?_) AllReadyH.nil)
    ·obtain ⟨q1, q2, q3, q4, q5⟩ := hHeld
     go_simp
     refine (impl_RedoLog.arr xs HX.out H16.out T l st 0 _ HRT.out (fun _ => HOK.out) (HTB.out.below q5)).mono ?_
     rintro e w6 ⟨rfl, hb⟩
     rw [HD.out]
     go_wp2_with fail
     refine hK.out _ _ ⟨q1.below hb, q2.below hb, q3, Nat.lt_of_lt_of_le q4 (Below.size hb), below_step q5 hb⟩ (fun hHeld => ?_)
     clear hK K hb q1 q2 q3 q4 q5
     try simp only [List.getElem_toArray, List.getElem_cons_succ, List.getElem_cons_zero, Act.put, List.setIfInBounds_toArray, List.set_cons_zero, List.set_cons_succ]
     refine wpAnyH_take (i := 5) (v := ?_) rfl (by kernel_rfl) (by kernel_rfl) (by kernel_rfl) (fun _ _ _ h => h) (Or.inl ⟨by rfl, ?_⟩) (by assumption) ?_
     rotate_left
     ·intro w hSw
      go_simp
      with_reducible rfl
     try simp only [List.getElem_toArray, List.getElem_cons_succ, List.getElem_cons_zero, Act.put, List.setIfInBounds_toArray, List.set_cons_zero, List.set_cons_succ]
     refine wpAnyH_take (i := 6) (v := ?_) rfl (by kernel_rfl) (by kernel_rfl) (by kernel_rfl) (fun _ _ _ h => h) (Or.inl ⟨by rfl, ?_⟩) (by assumption) ?_
     rotate_left
     ·intro w hSw
      go_simp
      with_reducible rfl
     try simp only [List.getElem_toArray, List.getElem_cons_succ, List.getElem_cons_zero, Act.put, List.setIfInBounds_toArray, List.set_cons_zero, List.set_cons_succ]
     refine wpAnyH_take (i := 7) (v := ?_) rfl (by kernel_rfl) (by kernel_rfl) (by kernel_rfl) (fun _ _ _ h => h) (Or.inl ⟨by rfl, ?_⟩) (by assumption) ?_
     rotate_left
     ·intro w hSw
      go_simp
      with_reducible rfl
     try simp only [List.getElem_toArray, List.getElem_cons_succ, List.getElem_cons_zero, Act.put, List.setIfInBounds_toArray, List.set_cons_zero, List.set_cons_succ]
     refine wpAnyH_ready (rs := [8]) (by kernel_rfl) (by simp) ?_
     refine AllReadyH.cons rfl (fun K hK => ?_) AllReadyH.nil
     obtain ⟨q1, q2, q3, q4, q5⟩ := hHeld
     go_simp
     have NW_7 := Aside0.mk (ArrAt.new w6 34 .i16 (zer 64))
     have hb := (Below.refl w6.heap.size w6).alloc (Nat.le_refl _) (.cells (nums .i16 (zer 64)).toArray 34)
     have HGN_7 := Aside0.mk (show w.heap.size ≤ w6.heap.size ∧ w1.heap.size < w6.heap.size from ⟨Below.size q5, q4⟩)
     refine hK.out _ _ ⟨q1.below hb, q2.below hb, q3, Nat.lt_of_lt_of_le q4 (Below.size hb), below_step q5 hb⟩ (fun hHeld => ?_)
     clear hK K hb q1 q2 q3 q4 q5
     try simp only [List.getElem_toArray, List.getElem_cons_succ, List.getElem_cons_zero, Act.put, List.setIfInBounds_toArray, List.set_cons_zero, List.set_cons_succ]
     refine wpAnyH_ready (rs := [9]) (by kernel_rfl) (by simp) ?_
     refine AllReadyH.cons rfl (fun K hK => ?_) AllReadyH.nil
     obtain ⟨q1, q2, q3, q4, q5⟩ := hHeld
     rw [if_pos (by rfl)]
     refine arr_wp_store 34 _ _ rfl w6.heap.size .i16 Y rfl rfl 34 (zer 64) NW_7.out 64 (by kernel_rfl) (zer_len 64) HY.out ?_
     have hn := HGN_7.out
     have NS := Aside0.mk (NW_7.out.row (ys := Y))
     refine hK.out _ _ ⟨q1.rowOther (by omega) _, q2.rowOther (by omega) _, q3, by simpa [World.setRow] using q4, below_row q5 (by omega) _⟩ (fun hHeld => ?_)
     clear hK K q1 q2 q3 q4 q5 hn
     try simp only [List.getElem_toArray, List.getElem_cons_succ, List.getElem_cons_zero, Act.put, List.setIfInBounds_toArray, List.set_cons_zero, List.set_cons_succ]
     refine wpAnyH_take (i := 10) (v := ?_) rfl (by kernel_rfl) (by kernel_rfl) (by kernel_rfl) (fun _ _ _ h => h) (Or.inl ⟨by rfl, ?_⟩) (by assumption) ?_
     rotate_left
     ·intro w hSw
      go_simp
      with_reducible rfl
     try simp only [List.getElem_toArray, List.getElem_cons_succ, List.getElem_cons_zero, Act.put, List.setIfInBounds_toArray, List.set_cons_zero, List.set_cons_succ]
     refine wpAnyH_done (by kernel_rfl) ?_ _
     obtain ⟨q1, q2, q3, q4, q5⟩ := hHeld
     have GZ := Aside0.mk q2
     have GB := Aside0.mk q5
     clear q1 q2 q3 q4 q5
     have qY := eq_prt Y HY.out
     go_wp2_with (first | (refine arr_loadG (by rfl) 34 _ rfl w6.heap.size rfl 34 .i16 Y NS.out _ Tryz.underlying34 rfl 64 (by kernel_rfl) HY.out ?_) | (refine arr_loadG (by rfl) 34 _ rfl w1.heap.size rfl 34 .i16 Y GZ.out _ Tryz.underlying34 rfl 64 (by kernel_rfl) HY.out ?_))
     go_ret
     exact ⟨rfl, GB.out⟩
    ·obtain ⟨q1, q2, q3, q4, q5⟩ := hHeld
     go_simp
     have NW_6 := Aside0.mk (ArrAt.new w5 34 .i16 (zer 64))
     have hb := (Below.refl w5.heap.size w5).alloc (Nat.le_refl _) (.cells (nums .i16 (zer 64)).toArray 34)
     have HGN_6 := Aside0.mk (show w.heap.size ≤ w5.heap.size ∧ w1.heap.size < w5.heap.size from ⟨Below.size q5, q4⟩)
     refine hK.out _ _ ⟨q1.below hb, q2.below hb, q3, Nat.lt_of_lt_of_le q4 (Below.size hb), below_step q5 hb⟩ (fun hHeld => ?_)
     clear hK K hb q1 q2 q3 q4 q5
     try simp only [List.getElem_toArray, List.getElem_cons_succ, List.getElem_cons_zero, Act.put, List.setIfInBounds_toArray, List.set_cons_zero, List.set_cons_succ]
     refine wpAnyH_ready (rs := [4]) (by kernel_rfl) (by simp) ?_
     refine AllReadyH.cons rfl (fun K hK => ?_) AllReadyH.nil
     obtain ⟨q1, q2, q3, q4, q5⟩ := hHeld
     go_simp
     refine (impl_RedoLog.arr xs HX.out H16.out T l st 0 _ HRT.out (fun _ => HOK.out) (HTB.out.below q5)).mono ?_
     rintro e w7 ⟨rfl, hb⟩
     rw [HD.out]
     go_wp2_with fail
     have NW_7 := Aside0.mk (NW_6.out.below hb)
     refine hK.out _ _ ⟨q1.below hb, q2.below hb, q3, Nat.lt_of_lt_of_le q4 (Below.size hb), below_step q5 hb⟩ (fun hHeld => ?_)
     clear hK K hb q1 q2 q3 q4 q5
     try simp only [List.getElem_toArray, List.getElem_cons_succ, List.getElem_cons_zero, Act.put, List.setIfInBounds_toArray, List.set_cons_zero, List.set_cons_succ]
     refine wpAnyH_take (i := 5) (v := ?_) rfl (by kernel_rfl) (by kernel_rfl) (by kernel_rfl) (fun _ _ _ h => h) (Or.inl ⟨by rfl, ?_⟩) (by assumption) ?_
     rotate_left
     ·intro w hSw
      go_simp
      with_reducible rfl
     try simp only [List.getElem_toArray, List.getElem_cons_succ, List.getElem_cons_zero, Act.put, List.setIfInBounds_toArray, List.set_cons_zero, List.set_cons_succ]
     refine wpAnyH_take (i := 6) (v := ?_) rfl (by kernel_rfl) (by kernel_rfl) (by kernel_rfl) (fun _ _ _ h => h) (Or.inl ⟨by rfl, ?_⟩) (by assumption) ?_
     rotate_left
     ·intro w hSw
      go_simp
      with_reducible rfl
     try simp only [List.getElem_toArray, List.getElem_cons_succ, List.getElem_cons_zero, Act.put, List.setIfInBounds_toArray, List.set_cons_zero, List.set_cons_succ]
     refine wpAnyH_take (i := 7) (v := ?_) rfl (by kernel_rfl) (by kernel_rfl) (by kernel_rfl) (fun _ _ _ h => h) (Or.inl ⟨by rfl, ?_⟩) (by assumption) ?_
     rotate_left
     ·intro w hSw
      go_simp
      with_reducible rfl
     try simp only [List.getElem_toArray, List.getElem_cons_succ, List.getElem_cons_zero, Act.put, List.setIfInBounds_toArray, List.set_cons_zero, List.set_cons_succ]
     refine wpAnyH_ready (rs := [9]) (by kernel_rfl) (by simp) ?_
     refine AllReadyH.cons rfl (fun K hK => ?_) AllReadyH.nil
     obtain ⟨q1, q2, q3, q4, q5⟩ := hHeld
     rw [if_pos (by rfl)]
     refine arr_wp_store 34 _ _ rfl w5.heap.size .i16 Y rfl rfl 34 (zer 64) NW_7.out 64 (by kernel_rfl) (zer_len 64) HY.out ?_
     have hn := HGN_6.out
     have NS := Aside0.mk (NW_7.out.row (ys := Y))
     refine hK.out _ _ ⟨q1.rowOther (by omega) _, q2.rowOther (by omega) _, q3, by simpa [World.setRow] using q4, below_row q5 (by omega) _⟩ (fun hHeld => ?_)
     clear hK K q1 q2 q3 q4 q5 hn
     try simp only [List.getElem_toArray, List.getElem_cons_succ, List.getElem_cons_zero, Act.put, List.setIfInBounds_toArray, List.set_cons_zero, List.set_cons_succ]
     refine wpAnyH_take (i := 10) (v := ?_) rfl (by kernel_rfl) (by kernel_rfl) (by kernel_rfl) (fun _ _ _ h => h) (Or.inl ⟨by rfl, ?_⟩) (by assumption) ?_
     rotate_left
     ·intro w hSw
      go_simp
      with_reducible rfl
     try simp only [List.getElem_toArray, List.getElem_cons_succ, List.getElem_cons_zero, Act.put, List.setIfInBounds_toArray, List.set_cons_zero, List.set_cons_succ]
     refine wpAnyH_done (by kernel_rfl) ?_ _
     obtain ⟨q1, q2, q3, q4, q5⟩ := hHeld
     have GZ := Aside0.mk q2
     have GB := Aside0.mk q5
     clear q1 q2 q3 q4 q5
     have qY := eq_prt Y HY.out
     go_wp2_with (first | (refine arr_loadG (by rfl) 34 _ rfl w5.heap.size rfl 34 .i16 Y NS.out _ Tryz.underlying34 rfl 64 (by kernel_rfl) HY.out ?_) | (refine arr_loadG (by rfl) 34 _ rfl w1.heap.size rfl 34 .i16 Y GZ.out _ Tryz.underlying34 rfl 64 (by kernel_rfl) HY.out ?_))
     go_ret
     exact ⟨rfl, GB.out⟩
   ·obtain ⟨q1, q2, q3, q4, q5⟩ := hHeld
    go_simp
    have NW_5 := Aside0.mk (ArrAt.new V0 34 .i16 (zer 64))
    have hb := (Below.refl V0.heap.size V0).alloc (Nat.le_refl _) (.cells (nums .i16 (zer 64)).toArray 34)
    have HGN_5 := Aside0.mk (show w.heap.size ≤ V0.heap.size ∧ w1.heap.size < V0.heap.size from ⟨Below.size q5, q4⟩)
    refine hK.out _ _ ⟨q1.below hb, q2.below hb, q3, Nat.lt_of_lt_of_le q4 (Below.size hb), below_step q5 hb⟩ (fun hHeld => ?_)
    clear hK K hb q1 q2 q3 q4 q5
    try simp only [List.getElem_toArray, List.getElem_cons_succ, List.getElem_cons_zero, Act.put, List.setIfInBounds_toArray, List.set_cons_zero, List.set_cons_succ]
    refine wpAnyH_ready (rs := [3]) (by kernel_rfl) (by simp) ?_
    refine AllReadyH.cons rfl (fun K hK => ?_) AllReadyH.nil
    obtain ⟨q1, q2, q3, q4, q5⟩ := hHeld
    go_simp
    refine (impl_LogText.calls 100 _ _ l _ _ st T _ (Kd.C_below HRW1.out q5) HC1.out (Kd.C_below HRW2.out q5) HC2.out HLT.out (HTB.out.below q5)).mono ?_
    rintro e w6 ⟨rfl, hb⟩
    go_wp2_with fail
    have NW_6 := Aside0.mk (NW_5.out.below hb)
    refine hK.out _ _ ⟨q1.below hb, q2.below hb, q3, Nat.lt_of_lt_of_le q4 (Below.size hb), below_step q5 hb⟩ (fun hHeld => ?_)
    clear hK K hb q1 q2 q3 q4 q5
    try simp only [List.getElem_toArray, List.getElem_cons_succ, List.getElem_cons_zero, Act.put, List.setIfInBounds_toArray, List.set_cons_zero, List.set_cons_succ]
    refine wpAnyH_ready (rs := [4]) (by kernel_rfl) (by simp) ?_
    refine AllReadyH.cons rfl (fun K hK => ?_) AllReadyH.nil
    obtain ⟨q1, q2, q3, q4, q5⟩ := hHeld
    go_simp
    refine (impl_RedoLog.arr xs HX.out H16.out T l st 0 _ HRT.out (fun _ => HOK.out) (HTB.out.below q5)).mono ?_
    rintro e w7 ⟨rfl, hb⟩
    rw [HD.out]
    go_wp2_with fail
    have NW_7 := Aside0.mk (NW_6.out.below hb)
    refine hK.out _ _ ⟨q1.below hb, q2.below hb, q3, Nat.lt_of_lt_of_le q4 (Below.size hb), below_step q5 hb⟩ (fun hHeld => ?_)
    clear hK K hb q1 q2 q3 q4 q5
    try simp only [List.getElem_toArray, List.getElem_cons_succ, List.getElem_cons_zero, Act.put, List.setIfInBounds_toArray, List.set_cons_zero, List.set_cons_succ]
    refine wpAnyH_take (i := 5) (v := ?_) rfl (by kernel_rfl) (by kernel_rfl) (by kernel_rfl) (fun _ _ _ h => h) (Or.inl ⟨by rfl, ?_⟩) (by assumption) ?_
    rotate_left
    ·intro w hSw
     go_simp
     with_reducible rfl
    try simp only [List.getElem_toArray, List.getElem_cons_succ, List.getElem_cons_zero, Act.put, List.setIfInBounds_toArray, List.set_cons_zero, List.set_cons_succ]
    refine wpAnyH_take (i := 6) (v := ?_) rfl (by kernel_rfl) (by kernel_rfl) (by kernel_rfl) (fun _ _ _ h => h) (Or.inl ⟨by rfl, ?_⟩) (by assumption) ?_
    rotate_left
    ·intro w hSw
     go_simp
     with_reducible rfl
    try simp only [List.getElem_toArray, List.getElem_cons_succ, List.getElem_cons_zero, Act.put, List.setIfInBounds_toArray, List.set_cons_zero, List.set_cons_succ]
    refine wpAnyH_take (i := 7) (v := ?_) rfl (by kernel_rfl) (by kernel_rfl) (by kernel_rfl) (fun _ _ _ h => h) (Or.inl ⟨by rfl, ?_⟩) (by assumption) ?_
    rotate_left
    ·intro w hSw
     go_simp
     with_reducible rfl
    try simp only [List.getElem_toArray, List.getElem_cons_succ, List.getElem_cons_zero, Act.put, List.setIfInBounds_toArray, List.set_cons_zero, List.set_cons_succ]
    refine wpAnyH_ready (rs := [9]) (by kernel_rfl) (by simp) ?_
    refine AllReadyH.cons rfl (fun K hK => ?_) AllReadyH.nil
    obtain ⟨q1, q2, q3, q4, q5⟩ := hHeld
    rw [if_pos (by rfl)]
    refine arr_wp_store 34 _ _ rfl V0.heap.size .i16 Y rfl rfl 34 (zer 64) NW_7.out 64 (by kernel_rfl) (zer_len 64) HY.out ?_
    have hn := HGN_5.out
    have NS := Aside0.mk (NW_7.out.row (ys := Y))
    refine hK.out _ _ ⟨q1.rowOther (by omega) _, q2.rowOther (by omega) _, q3, by simpa [World.setRow] using q4, below_row q5 (by omega) _⟩ (fun hHeld => ?_)
    clear hK K q1 q2 q3 q4 q5 hn
    try simp only [List.getElem_toArray, List.getElem_cons_succ, List.getElem_cons_zero, Act.put, List.setIfInBounds_toArray, List.set_cons_zero, List.set_cons_succ]
    refine wpAnyH_take (i := 10) (v := ?_) rfl (by kernel_rfl) (by kernel_rfl) (by kernel_rfl) (fun _ _ _ h => h) (Or.inl ⟨by rfl, ?_⟩) (by assumption) ?_
    rotate_left
    ·intro w hSw
     go_simp
     with_reducible rfl
    try simp only [List.getElem_toArray, List.getElem_cons_succ, List.getElem_cons_zero, Act.put, List.setIfInBounds_toArray, List.set_cons_zero, List.set_cons_succ]
    refine wpAnyH_done (by kernel_rfl) ?_ _
    obtain ⟨q1, q2, q3, q4, q5⟩ := hHeld
    have GZ := Aside0.mk q2
    have GB := Aside0.mk q5
    clear q1 q2 q3 q4 q5
    have qY := eq_prt Y HY.out
    go_wp2_with (first | (refine arr_loadG (by rfl) 34 _ rfl V0.heap.size rfl 34 .i16 Y NS.out _ Tryz.underlying34 rfl 64 (by kernel_rfl) HY.out ?_) | (refine arr_loadG (by rfl) 34 _ rfl w1.heap.size rfl 34 .i16 Y GZ.out _ Tryz.underlying34 rfl 64 (by kernel_rfl) HY.out ?_))
    go_ret
    exact ⟨rfl, GB.out⟩
  ·have HV := Aside0.mk (show D_printFrom xs l st = (zer 64, 1) from if_neg hok)
   have HY := Aside0.mk (zer_len 64)
   clear hok
   go_enter Tryz.func6, Tryz.ntmps6
   go_wp2_with (first | (refine arr_load rfl 37 _ rfl w.heap.size rfl 37 .i16 xs HA.out _ Tryz.underlying37 rfl 64 (by kernel_rfl) HX.out ?_))
   refine (impl_PrintFrom.arr xs HX.out H16.out _ _ l _ _ st _ HR1.out HC1.out HR2.out HC2.out H1.out N1.out H8.out N2.out).mono ?_
   rintro e w1 ⟨rfl, hb⟩
   rw [HV.out]
   have HA_1 := Aside0.mk (ArrAt.below HA.out hb)
   have HB_1 := Aside0.mk (below_step HB.out hb)
   have HR1_1 := Aside0.mk (Kd.C_below HR1.out hb)
   have HR2_1 := Aside0.mk (Kd.C_below HR2.out hb)
   clear hb HA HB HR1 HR2
   have HG0 := Aside0.mk (show w.heap.size ≤ w1.heap.size from Below.size HB_1.out)
   have G0_n := Aside0.mk (ArrAt.new w1 34 .i16 (zer 64))
   have G0_0 := Aside0.mk (G0_n.out.row (ys := (zer 64)))
   have hba := below_row (below_alloc (Below.refl w1.heap.size w1) (.cells (nums .i16 (zer 64)).toArray 34)) (Nat.le_refl w1.heap.size) (nums .i16 (zer 64)).toArray
   have HA_2 := Aside0.mk (ArrAt.below HA_1.out hba)
   have HB_2 := Aside0.mk (below_step HB_1.out hba)
   have HR1_2 := Aside0.mk (Kd.C_below HR1_1.out hba)
   have HR2_2 := Aside0.mk (Kd.C_below HR2_1.out hba)
   clear hba HA_1 HB_1 HR1_1 HR2_1
   go_wp2_with (first | (refine arr_store rfl 34 _ _ rfl w1.heap.size .i16 (zer 64) rfl rfl 34 (zer 64) G0_n.out 64 (by kernel_rfl) (zer_len 64) HY.out ?_) | (refine arr_load rfl 37 _ rfl w.heap.size rfl 37 .i16 xs HA_2.out _ Tryz.underlying37 rfl 64 (by kernel_rfl) HX.out ?_) | (refine arr_load rfl 34 _ rfl w1.heap.size rfl 34 .i16 (zer 64) G0_0.out _ Tryz.underlying34 rfl 64 (by kernel_rfl) HY.out ?_))
   refine (spec_PrintFrom.arr xs HX.out H16.out _ _ l _ _ st _ HR1_2.out HC1.out HR2_2.out HC2.out H1.out N1.out H8.out N2.out).mono ?_
   rintro e w3 ⟨rfl, hb⟩
   rw [HV.out]
   have HA_3 := Aside0.mk (ArrAt.below HA_2.out hb)
   have HB_3 := Aside0.mk (below_step HB_2.out hb)
   have HR1_3 := Aside0.mk (Kd.C_below HR1_2.out hb)
   have HR2_3 := Aside0.mk (Kd.C_below HR2_2.out hb)
   have G0_3 := Aside0.mk (ArrAt.below G0_0.out hb)
   clear hb HA_2 HB_2 HR1_2 HR2_2 G0_0
   have G1_n := Aside0.mk (ArrAt.new w3 34 .i16 (zer 64))
   have G1_0 := Aside0.mk (G1_n.out.row (ys := (zer 64)))
   have hba := below_row (below_alloc (Below.refl w3.heap.size w3) (.cells (nums .i16 (zer 64)).toArray 34)) (Nat.le_refl w3.heap.size) (nums .i16 (zer 64)).toArray
   have HA_4 := Aside0.mk (ArrAt.below HA_3.out hba)
   have HB_4 := Aside0.mk (below_step HB_3.out hba)
   have HR1_4 := Aside0.mk (Kd.C_below HR1_3.out hba)
   have HR2_4 := Aside0.mk (Kd.C_below HR2_3.out hba)
   have G0_4 := Aside0.mk (ArrAt.below G0_3.out hba)
   clear hba HA_3 HB_3 HR1_3 HR2_3 G0_3
   have qY := eq_prt (zer 64) HY.out
   go_wp2_with (first | (refine arr_store rfl 34 _ _ rfl w3.heap.size .i16 (zer 64) rfl rfl 34 (zer 64) G1_n.out 64 (by kernel_rfl) (zer_len 64) HY.out ?_) | (refine arr_loadG (by rfl) 37 _ rfl w.heap.size rfl 37 .i16 xs HA_4.out _ Tryz.underlying37 rfl 64 (by kernel_rfl) HX.out ?_) | (refine arr_loadG (by rfl) 34 _ rfl w1.heap.size rfl 34 .i16 (zer 64) G0_4.out _ Tryz.underlying34 rfl 64 (by kernel_rfl) HY.out ?_) | (refine arr_loadG (by rfl) 34 _ rfl w3.heap.size rfl 34 .i16 (zer 64) G1_0.out _ Tryz.underlying34 rfl 64 (by kernel_rfl) HY.out ?_) | (refine arr_load rfl 37 _ rfl w.heap.size rfl 37 .i16 xs HA_4.out _ Tryz.underlying37 rfl 64 (by kernel_rfl) HX.out ?_) | (refine arr_load rfl 34 _ rfl w1.heap.size rfl 34 .i16 (zer 64) G0_4.out _ Tryz.underlying34 rfl 64 (by kernel_rfl) HY.out ?_) | (refine arr_load rfl 34 _ rfl w3.heap.size rfl 34 .i16 (zer 64) G1_0.out _ Tryz.underlying34 rfl 64 (by kernel_rfl) HY.out ?_))
   go_ret
   exact ⟨rfl, HB_4.out⟩
end Go.Proofs.YtiehbagnebjadaaGreatDoor.Q
