-- The row of RedoLog.
import Derived.Test.YtiehbagnebjadaaGreatDoorQx6
import Derived.Test.YtiehbagnebjadaaGreatDoorQx8
import Derived.Test.YtiehbagnebjadaaGreatDoorQx10
import Derived.Test.YtiehbagnebjadaaGreatDoorQx11
import Derived.Test.YtiehbagnebjadaaGreatDoorQx12
import Derived.Test.YtiehbagnebjadaaGreatDoorQx14
import Derived.Test.YtiehbagnebjadaaGreatDoorArrRedo
import Derived.Test.YtiehbagnebjadaaGreatDoorArrPLR
namespace Go.Proofs.YtiehbagnebjadaaGreatDoor.Q
open Go.RowKit Go.Proofs.YtiehbagnebjadaaGreatDoor.PL Go.Proofs.YtiehbagnebjadaaGreatDoorW.PrintWords Go.Proofs.YtiehbagnebjadaaGreatDoorW.PrintLast Go.Proofs.YtiehbagnebjadaaGreatDoorW.PrintMore
attribute [local go_sem] max2_int min2_int max_two min_two max_three min_three max_four min_four
set_option linter.unusedVariables false
set_option linter.unusedSimpArgs false
set_option maxHeartbeats 8000000 in
set_option maxRecDepth 100000 in
theorem laws_FnExactRedoLog.arr (w : World) (xs : List Int) (hl : xs.length = 64) (h16 : ∀ x ∈ xs, -32768 ≤ x ∧ x ≤ 32767) (s : ByteArray) (hT : Tab10 w) :
    Calls Tryz.prog 4 #[.agg (nums .i16 xs).toArray, .string s] w fun e w' => e = .returned (.bool true) ∧ Below w.heap.size w w' := by
  have HX := Aside0.mk hl
  have H16 := Aside0.mk h16
  have HTB := Aside0.mk hT
  have HA := Aside0.mk (ArrAt.new w 33 .i16 xs)
  have HB := Aside0.mk ((Below.refl w.heap.size w).alloc (Nat.le_refl _) (.cells (nums .i16 xs).toArray 33))
  clear hl h16 hT
  by_cases hbig : (1048576 : Int) < (s.size : Int)
  · have hb1 : decide ((1048576 : Int) < (s.size : Int)) = true := decide_eq_true hbig
    clear hbig
    go_enter Tryz.func4, Tryz.ntmps4
    go_wp2_with fail
    go_ret
    exact ⟨rfl, HB.out⟩
  · have hb1 : decide ((1048576 : Int) < (s.size : Int)) = false := decide_eq_false hbig
    obtain ⟨P, S, c, hok, e1, e2⟩ := L_readLogOk s (by omega)
    have HOK := Aside0.mk hok
    have HE1 := Aside0.mk e1
    have HE2 := Aside0.mk (e2 20000000 (Nat.le_refl _))
    obtain ⟨Z, hZ⟩ : ∃ Z, Z = D_redo xs P S c := ⟨_, rfl⟩
    have HL := Aside0.mk (show Z.1.length = 64 by rw [hZ]; exact D_redo_len xs P S c)
    have HZ := Aside0.mk hZ
    clear hbig hok e1 e2 hZ
    go_enter Tryz.func4, Tryz.ntmps4
    go_wp2_with (first | (refine arr_load rfl 33 _ rfl w.heap.size rfl 33 .i16 xs HA.out _ Tryz.underlying33 rfl 64 (by kernel_rfl) HX.out ?_))
    refine (laws_toNegative.arr xs HX.out _).mono ?_
    rintro e w1 ⟨rfl, hb⟩
    have HA_1 := Aside0.mk (ArrAt.below HA.out hb)
    have HB_1 := Aside0.mk (below_step HB.out hb)
    clear hb HA HB
    go_wp2_with fail
    refine (spec_RedoLog.arr xs HX.out H16.out 20000000 s P S c _ HE2.out HOK.out).mono ?_
    rintro e w2 ⟨rfl, hb⟩
    rw [← HZ.out]
    have HA_2 := Aside0.mk (ArrAt.below HA_1.out hb)
    have HB_2 := Aside0.mk (below_step HB_1.out hb)
    clear hb HA_1 HB_1
    have G0_n := Aside0.mk (ArrAt.new w2 34 .i16 (zer 64))
    have G0_0 := Aside0.mk (G0_n.out.row (ys := Z.1))
    have hba := below_row (below_alloc (Below.refl w2.heap.size w2) (.cells (nums .i16 (zer 64)).toArray 34)) (Nat.le_refl w2.heap.size) (nums .i16 Z.1).toArray
    have HA_3 := Aside0.mk (ArrAt.below HA_2.out hba)
    have HB_3 := Aside0.mk (below_step HB_2.out hba)
    clear hba HA_2 HB_2
    go_wp2_with (first | (refine arr_store rfl 34 _ _ rfl w2.heap.size .i16 Z.1 rfl rfl 34 (zer 64) G0_n.out 64 (by kernel_rfl) (zer_len 64) HL.out ?_) | (refine arr_load rfl 33 _ rfl w.heap.size rfl 33 .i16 xs HA_3.out _ Tryz.underlying33 rfl 64 (by kernel_rfl) HX.out ?_) | (refine arr_load rfl 34 _ rfl w2.heap.size rfl 34 .i16 Z.1 G0_0.out _ Tryz.underlying34 rfl 64 (by kernel_rfl) HL.out ?_))
    refine (laws_toNegative.arr xs HX.out _).mono ?_
    rintro e w4 ⟨rfl, hb⟩
    have HA_4 := Aside0.mk (ArrAt.below HA_3.out hb)
    have HB_4 := Aside0.mk (below_step HB_3.out hb)
    have G0_4 := Aside0.mk (ArrAt.below G0_0.out hb)
    clear hb HA_3 HB_3 G0_0
    go_wp2_with fail
    refine (impl_RedoLog.arr xs HX.out H16.out s P S c _ HE1.out HOK.out (HTB.out.below HB_4.out)).mono ?_
    rintro e w5 ⟨rfl, hb⟩
    rw [← HZ.out]
    have HA_5 := Aside0.mk (ArrAt.below HA_4.out hb)
    have HB_5 := Aside0.mk (below_step HB_4.out hb)
    have G0_5 := Aside0.mk (ArrAt.below G0_4.out hb)
    clear hb HA_4 HB_4 G0_4
    have G1_n := Aside0.mk (ArrAt.new w5 34 .i16 (zer 64))
    have G1_0 := Aside0.mk (G1_n.out.row (ys := Z.1))
    have hba := below_row (below_alloc (Below.refl w5.heap.size w5) (.cells (nums .i16 (zer 64)).toArray 34)) (Nat.le_refl w5.heap.size) (nums .i16 Z.1).toArray
    have HA_6 := Aside0.mk (ArrAt.below HA_5.out hba)
    have HB_6 := Aside0.mk (below_step HB_5.out hba)
    have G0_6 := Aside0.mk (ArrAt.below G0_5.out hba)
    clear hba HA_5 HB_5 G0_5
    go_wp2_with (first | (refine arr_store rfl 34 _ _ rfl w5.heap.size .i16 Z.1 rfl rfl 34 (zer 64) G1_n.out 64 (by kernel_rfl) (zer_len 64) HL.out ?_) | (refine arr_load rfl 33 _ rfl w.heap.size rfl 33 .i16 xs HA_6.out _ Tryz.underlying33 rfl 64 (by kernel_rfl) HX.out ?_) | (refine arr_load rfl 34 _ rfl w2.heap.size rfl 34 .i16 Z.1 G0_6.out _ Tryz.underlying34 rfl 64 (by kernel_rfl) HL.out ?_) | (refine arr_load rfl 34 _ rfl w5.heap.size rfl 34 .i16 Z.1 G1_0.out _ Tryz.underlying34 rfl 64 (by kernel_rfl) HL.out ?_))
    refine (laws_eqPrint.arr Z.1 Z.1 HL.out HL.out _).mono ?_
    rintro e w7 ⟨rfl, hb⟩
    have HA_7 := Aside0.mk (ArrAt.below HA_6.out hb)
    have HB_7 := Aside0.mk (below_step HB_6.out hb)
    have G0_7 := Aside0.mk (ArrAt.below G0_6.out hb)
    have G1_7 := Aside0.mk (ArrAt.below G1_0.out hb)
    clear hb HA_6 HB_6 G0_6 G1_0
    have ht : decide (Z.1 = Z.1) = true := decide_eq_true rfl
    have hn : (Z.2 != Z.2) = false := by simp
    go_wp2_with fail
    go_ret
    exact ⟨rfl, HB_7.out⟩
end Go.Proofs.YtiehbagnebjadaaGreatDoor.Q
