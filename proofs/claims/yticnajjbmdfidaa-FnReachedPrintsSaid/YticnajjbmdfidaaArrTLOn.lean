-- The times and the lights of steps: the program's functions alone.
import Derived.Test.YticnajjbmdfidaaQx3
import Derived.Test.YticnajjbmdfidaaQx7
import Derived.Test.YticnajjbmdfidaaArrLight
namespace Go.Proofs.Yticnajjbmdfidaa.Q
open Go.RowKit Go.Proofs.Yticnajjbmdfidaa.PL Go.Proofs.YticnajjbmdfidaaW.PrintWords Go.Proofs.YticnajjbmdfidaaW.PrintLast Go.Proofs.YticnajjbmdfidaaW.PrintMore
set_option linter.unusedVariables false
set_option linter.unusedSimpArgs false
def D_timesOn (l : List S76) : List Int × Int := if D_steps l then (D_times l, 0) else (zer 64, 1)
theorem D_timesOn_len (l : List S76) : (D_timesOn l).1.length = 64 := by unfold D_timesOn; split <;> simp [D_timesLen, zer]
set_option maxHeartbeats 8000000 in
set_option maxRecDepth 100000 in
theorem impl_TimesOn.arr (A0 : Option Addr) (c0 : Nat) (l : List S76) (w : World) (hr : Kd.C k76 w A0 l.length l) (hc : l.length ≤ c0) (h8 : D_i8s l) (hn : l.length ≤ 140737488351232) :
    Calls Try.prog 13 #[.slice A0 l.length c0] w fun e w' => e = .returned (.tuple #[.agg (nums .i64 (D_timesOn l).1).toArray, .int .i64 (D_timesOn l).2]) ∧ Below w.heap.size w w' := by
  have HR := Aside0.mk hr
  have HC := Aside0.mk hc
  have HOK := Aside0.mk (L_implSteps l h8)
  have HZ0 := Aside0.mk (ArrAt.new w 24 .i64 (zer 64))
  have HB0 := Aside0.mk ((Below.refl w.heap.size w).alloc (Nat.le_refl _) (.cells (nums .i64 (zer 64)).toArray 24))
  clear hr hc hn
  go_enter Try.func13, Try.ntmps13
  go_wp2_with fail
  refine (impl_ValidSteps.calls A0 c0 l (decide (D_steps l)) _ (Kd.C_below HR.out HB0.out) HC.out HOK.out).mono ?_
  rintro e w1 ⟨rfl, hb⟩
  have HB1 := Aside0.mk (below_step HB0.out hb)
  have HZ1 := Aside0.mk (HZ0.out.below hb)
  clear hb HB0 HZ0
  by_cases hd : D_steps l
  · have hdd : decide (D_steps l) = true := decide_eq_true hd
    have HD := Aside0.mk hd
    have HE := Aside0.mk (show D_timesOn l = (D_times l, 0) from if_pos hd)
    clear hd
    go_wp2_with fail
    refine (impl_timesOn.arr A0 c0 l _ (Kd.C_below HR.out HB1.out) HC.out HD.out.1).mono ?_
    rintro e w2 ⟨rfl, hb⟩
    have HB2 := Aside0.mk (below_step HB1.out hb)
    have HZ2 := Aside0.mk (HZ1.out.below hb)
    obtain ⟨Z, hZ⟩ : ∃ Z, Z = D_times l := ⟨_, rfl⟩
    have HL := Aside0.mk (show Z.length = 64 by rw [hZ]; exact D_timesLen l)
    rw [← hZ]
    have HZZ := Aside0.mk hZ
    clear hb HB1 HZ1 hZ
    go_wp2_with (first | (refine arr_store rfl 24 _ _ rfl w.heap.size .i64 Z rfl rfl 24 (zer 64) HZ2.out 64 (by kernel_rfl) (zer_len 64) HL.out ?_))
    refine bodyPost_ret (results_ct rfl _ _ w.heap.size 24 (nums .i64 Z).toArray (0, 0) _ rfl HZ2.out.row Try.underlying24 rfl (by rw [show (Array.size (nums .i64 Z).toArray) = 64 by simp [nums, HL.out]]; kernel_rfl)) rfl ?_
    exact ⟨by rw [HE.out, HZZ.out]; rfl, below_row HB2.out (Nat.le_refl _) _⟩
  · have hdd : decide (D_steps l) = false := decide_eq_false hd
    have HE := Aside0.mk (show D_timesOn l = (zer 64, 1) from if_neg hd)
    clear hd
    go_wp2_with (first | (refine arr_store rfl 24 _ _ rfl w.heap.size .i64 (zer 64) rfl rfl 24 (zer 64) HZ1.out 64 (by kernel_rfl) (zer_len 64) (zer_len 64) ?_))
    refine bodyPost_ret (results_ct rfl _ _ w.heap.size 24 (nums .i64 (zer 64)).toArray (0, 0) _ rfl HZ1.out.row Try.underlying24 rfl (by rw [show (Array.size (nums .i64 (zer 64)).toArray) = 64 by simp [nums, zer]]; kernel_rfl)) rfl ?_
    exact ⟨by rw [HE.out]; rfl, below_row HB1.out (Nat.le_refl _) _⟩
def D_lightOn (l : List S76) : List Int × Int := if D_steps l then (D_light l, 0) else (zer 64, 1)
theorem D_lightOn_len (l : List S76) : (D_lightOn l).1.length = 64 := by unfold D_lightOn; split <;> simp [D_lightLen, zer]
set_option maxHeartbeats 8000000 in
set_option maxRecDepth 100000 in
theorem impl_LightOn.arr (A0 : Option Addr) (c0 : Nat) (l : List S76) (w : World) (hr : Kd.C k76 w A0 l.length l) (hc : l.length ≤ c0) (h8 : D_i8s l) (hn : l.length ≤ 140737488351232) :
    Calls Try.prog 17 #[.slice A0 l.length c0] w fun e w' => e = .returned (.tuple #[.agg (nums .i64 (D_lightOn l).1).toArray, .int .i64 (D_lightOn l).2]) ∧ Below w.heap.size w w' := by
  have HR := Aside0.mk hr
  have HC := Aside0.mk hc
  have HOK := Aside0.mk (L_implSteps l h8)
  have HZ0 := Aside0.mk (ArrAt.new w 24 .i64 (zer 64))
  have HB0 := Aside0.mk ((Below.refl w.heap.size w).alloc (Nat.le_refl _) (.cells (nums .i64 (zer 64)).toArray 24))
  clear hr hc hn
  go_enter Try.func17, Try.ntmps17
  go_wp2_with fail
  refine (impl_ValidSteps.calls A0 c0 l (decide (D_steps l)) _ (Kd.C_below HR.out HB0.out) HC.out HOK.out).mono ?_
  rintro e w1 ⟨rfl, hb⟩
  have HB1 := Aside0.mk (below_step HB0.out hb)
  have HZ1 := Aside0.mk (HZ0.out.below hb)
  clear hb HB0 HZ0
  by_cases hd : D_steps l
  · have hdd : decide (D_steps l) = true := decide_eq_true hd
    have HD := Aside0.mk hd
    have HE := Aside0.mk (show D_lightOn l = (D_light l, 0) from if_pos hd)
    clear hd
    go_wp2_with fail
    refine (impl_lightOn.arr A0 c0 l _ (Kd.C_below HR.out HB1.out) HC.out HD.out.1).mono ?_
    rintro e w2 ⟨rfl, hb⟩
    have HB2 := Aside0.mk (below_step HB1.out hb)
    have HZ2 := Aside0.mk (HZ1.out.below hb)
    obtain ⟨Z, hZ⟩ : ∃ Z, Z = D_light l := ⟨_, rfl⟩
    have HL := Aside0.mk (show Z.length = 64 by rw [hZ]; exact D_lightLen l)
    rw [← hZ]
    have HZZ := Aside0.mk hZ
    clear hb HB1 HZ1 hZ
    go_wp2_with (first | (refine arr_store rfl 24 _ _ rfl w.heap.size .i64 Z rfl rfl 24 (zer 64) HZ2.out 64 (by kernel_rfl) (zer_len 64) HL.out ?_))
    refine bodyPost_ret (results_ct rfl _ _ w.heap.size 24 (nums .i64 Z).toArray (0, 0) _ rfl HZ2.out.row Try.underlying24 rfl (by rw [show (Array.size (nums .i64 Z).toArray) = 64 by simp [nums, HL.out]]; kernel_rfl)) rfl ?_
    exact ⟨by rw [HE.out, HZZ.out]; rfl, below_row HB2.out (Nat.le_refl _) _⟩
  · have hdd : decide (D_steps l) = false := decide_eq_false hd
    have HE := Aside0.mk (show D_lightOn l = (zer 64, 1) from if_neg hd)
    clear hd
    go_wp2_with (first | (refine arr_store rfl 24 _ _ rfl w.heap.size .i64 (zer 64) rfl rfl 24 (zer 64) HZ1.out 64 (by kernel_rfl) (zer_len 64) (zer_len 64) ?_))
    refine bodyPost_ret (results_ct rfl _ _ w.heap.size 24 (nums .i64 (zer 64)).toArray (0, 0) _ rfl HZ1.out.row Try.underlying24 rfl (by rw [show (Array.size (nums .i64 (zer 64)).toArray) = 64 by simp [nums, zer]]; kernel_rfl)) rfl ?_
    exact ⟨by rw [HE.out]; rfl, below_row HB1.out (Nat.le_refl _) _⟩
end Go.Proofs.Yticnajjbmdfidaa.Q
