-- TimesOn
import Derived.Test.YticnajjbmdfidaaQx5
import Derived.Test.YticnajjbmdfidaaQx6
import Derived.Test.YticnajjbmdfidaaQx7
import Derived.Test.YticnajjbmdfidaaQx8
import Derived.Test.YticnajjbmdfidaaArrPL
import Derived.Test.YticnajjbmdfidaaArrTimes
namespace Go.Proofs.Yticnajjbmdfidaa.Q
open Go.RowKit Go.Proofs.Yticnajjbmdfidaa.PL Go.Proofs.YticnajjbmdfidaaW.PrintWords Go.Proofs.YticnajjbmdfidaaW.PrintLast Go.Proofs.YticnajjbmdfidaaW.PrintMore
set_option linter.unusedVariables false
set_option linter.unusedSimpArgs false
set_option maxHeartbeats 8000000 in
set_option maxRecDepth 100000 in
theorem laws_eqInt64A64.arr (xs ys : List Int) (hl : xs.length = 64) (hm : ys.length = 64) (w : World) :
    Calls Try.prog 14 #[.agg (nums .i64 xs).toArray, .agg (nums .i64 ys).toArray] w fun e w' => e = .returned (.bool (decide (xs = ys))) ∧ Below w.heap.size w w' := by
  have HL := Aside0.mk hl
  have HM := Aside0.mk hm
  have HA0 := Aside0.mk (arr_new2a w 24 .i64 xs (.cells (nums .i64 ys).toArray 24))
  have HA1 := Aside0.mk (arr_new2b w (.cells (nums .i64 xs).toArray 24) 24 .i64 ys)
  have HB0 := Aside0.mk (arr_below2 w (.cells (nums .i64 xs).toArray 24) (.cells (nums .i64 ys).toArray 24))
  clear hl hm
  go_enter Try.func14, Try.ntmps14
  go_wp2_with fail
  go_loopg [5] 64 (fun kq v5 w' => ∃ (i : Int) (W : World), W = w' ∧ v5 = .int .i64 i ∧ Aside0 (0 ≤ i ∧ i + kq = 64) ∧ Aside0 (∀ j : Int, 0 ≤ j → j < i → rd xs j = rd ys j) ∧
      Aside0 (ArrAt W w.heap.size 24 .i64 xs) ∧ Aside0 (ArrAt W (w.heap.size + 1) 24 .i64 ys) ∧ Aside0 (Below w.heap.size w W))
  case atStart => exact ⟨0, _, rfl, rfl, ⟨by omega⟩, ⟨fun j _ _ => by omega⟩, HA0, HA1, HB0⟩
  case round =>
    clear HA0 HA1 HB0
    obtain ⟨i, W, rfl, rfl, HI, HE, HA, HO, HB⟩ := hrel
    cases gk with
    | zero =>
      have hdec : decide (i < 64) = false := decide_eq_false (by have := HI.out; omega)
      have hall : decide (xs = ys) = true := decide_eq_true (arr_ext (by rw [HL.out, HM.out]) (fun j h0 h1 => HE.out j h0 (by have := HI.out; have := HL.out; omega)))
      go_wp2_with fail
      go_ret
      exact ⟨by rw [hall]; rfl, HB.out⟩
    | succ k1 =>
      have h0 := HI.out.1
      have hi : i < 64 := by have := HI.out.2; omega
      have c1 : W.cell? ⟨w.heap.size, i.toNat, none⟩ = some (.int .i64 (rd xs i)) := HA.out.cell h0 (by rw [HL.out]; omega)
      have c2 : W.cell? ⟨w.heap.size + 1, i.toNat, none⟩ = some (.int .i64 (rd ys i)) := HO.out.cell h0 (by rw [HM.out]; omega)
      by_cases hd : rd xs i = rd ys i
      · have hdd : (rd xs i != rd ys i) = false := by simp [hd]
        have HD1 := Aside0.mk (fun (j : Int) (h1 : 0 ≤ j) (h2 : j < i + 1) => if h : j < i then HE.out j h1 h else (show j = i by omega) ▸ hd)
        clear hd
        go_wp2_with fail
        go_region_held3 (fun w' => w'.cell? ⟨w.heap.size, i.toNat, none⟩ = some (.int .i64 (rd xs i)) ∧ w'.cell? ⟨w.heap.size + 1, i.toNat, none⟩ = some (.int .i64 (rd ys i))) (first | go_keep | fail) (fail)
        go_wp2_with fail
        go_roundg k1
        case measure => omega
        case rel => exact ⟨i + 1, _, rfl, rfl, ⟨by have := HI.out; omega⟩, HD1, ⟨HA.out⟩, ⟨HO.out⟩, ⟨below_drew1 HB.out⟩⟩
      · have hdd : (rd xs i != rd ys i) = true := by simp [hd]
        have hall : decide (xs = ys) = false := decide_eq_false (fun h => hd (by rw [h]))
        clear hd
        go_wp2_with fail
        go_region_held3 (fun w' => w'.cell? ⟨w.heap.size, i.toNat, none⟩ = some (.int .i64 (rd xs i)) ∧ w'.cell? ⟨w.heap.size + 1, i.toNat, none⟩ = some (.int .i64 (rd ys i))) (first | go_keep | fail) (fail)
        go_wp2_with fail
        go_ret
        exact ⟨by rw [hall]; rfl, below_drew1 HB.out⟩
def D_timesOn (l : List S76) : List Int × Int := if D_steps l then (D_times l, 0) else (zer 64, 1)
theorem D_timesOn_len (l : List S76) : (D_timesOn l).1.length = 64 := by unfold D_timesOn; split <;> simp [D_timesLen, zer]
set_option maxHeartbeats 8000000 in
set_option maxRecDepth 100000 in
theorem spec_TimesOn.arr (A0 : Option Addr) (c0 : Nat) (l : List S76) (w : World) (hr : Kd.C k76 w A0 l.length l) (hc : l.length ≤ c0) (h8 : D_i8s l) (hn : l.length ≤ 140737488351232) :
    Calls Try.prog 11 #[.slice A0 l.length c0] w fun e w' => e = .returned (.tuple #[.agg (nums .i64 (D_timesOn l).1).toArray, .int .i64 (D_timesOn l).2]) ∧ Below w.heap.size w w' := by
  have HR := Aside0.mk hr
  have HC := Aside0.mk hc
  have HOK := Aside0.mk (L_stepsOk l h8 hn (Nat.lt_succ_self _))
  have HZ0 := Aside0.mk (ArrAt.new w 24 .i64 (zer 64))
  have HB0 := Aside0.mk ((Below.refl w.heap.size w).alloc (Nat.le_refl _) (.cells (nums .i64 (zer 64)).toArray 24))
  clear hr hc hn
  go_enter Try.func11, Try.ntmps11
  go_wp2_with fail
  refine (spec_l03Ok.calls _ A0 c0 l (decide (D_steps l)) _ (Kd.C_below HR.out HB0.out) HC.out HOK.out).mono ?_
  rintro e w1 ⟨rfl, hb⟩
  have HB1 := Aside0.mk (below_step HB0.out hb.below)
  have HZ1 := Aside0.mk (HZ0.out.below hb.below)
  clear hb HB0 HZ0
  by_cases hd : D_steps l
  · have hdd : decide (D_steps l) = true := decide_eq_true hd
    have HD := Aside0.mk hd
    have HE := Aside0.mk (show D_timesOn l = (D_times l, 0) from if_pos hd)
    clear hd
    go_wp2_with fail
    refine (spec_l03Times.arr A0 c0 l _ (Kd.C_below HR.out HB1.out) HC.out HD.out.1).mono ?_
    rintro e w2 ⟨rfl, hb⟩
    have HB2 := Aside0.mk (below_step HB1.out hb)
    have HZ2 := Aside0.mk (HZ1.out.below hb)
    obtain ⟨Z, hZ⟩ : ∃ Z, Z = D_times l := ⟨_, rfl⟩
    have HL := Aside0.mk (show Z.length = 64 by rw [hZ]; exact D_timesLen l)
    rw [← hZ]
    have HZZ := Aside0.mk hZ
    clear hb HB1 HZ1 hZ
    go_wp2_with (first | (refine arr_store rfl 24 _ _ rfl w.heap.size .i64 Z rfl rfl 24 (zer 64) HZ2.out 64 (by kernel_rfl) (zer_len 64) HL.out ?_))
    refine bodyPost_ret (results_ct rfl _ _ w.heap.size 24 (nums .i64 Z).toArray (0, 0) _ rfl HZ2.out.row Try.underlying24 rfl (by rw [show (Array.size (nums .i64 Z).toArray) = 64 by simp [nums, HL.out]]; kernel_rfl)) rfl ?_
    exact ⟨by rw [HE.out, HZZ.out]; rfl, below_row HB2.out (Nat.le_refl _) _⟩
  · have hdd : decide (D_steps l) = false := decide_eq_false hd
    have HE := Aside0.mk (show D_timesOn l = (zer 64, 1) from if_neg hd)
    clear hd
    go_wp2_with (first | (refine arr_store rfl 24 _ _ rfl w.heap.size .i64 (zer 64) rfl rfl 24 (zer 64) HZ1.out 64 (by kernel_rfl) (zer_len 64) (zer_len 64) ?_))
    refine bodyPost_ret (results_ct rfl _ _ w.heap.size 24 (nums .i64 (zer 64)).toArray (0, 0) _ rfl HZ1.out.row Try.underlying24 rfl (by rw [show (Array.size (nums .i64 (zer 64)).toArray) = 64 by simp [nums, zer]]; kernel_rfl)) rfl ?_
    exact ⟨by rw [HE.out]; rfl, below_row HB1.out (Nat.le_refl _) _⟩
set_option maxHeartbeats 8000000 in
set_option maxRecDepth 100000 in
theorem impl_TimesOn.arr (A0 : Option Addr) (c0 : Nat) (l : List S76) (w : World) (hr : Kd.C k76 w A0 l.length l) (hc : l.length ≤ c0) (h8 : D_i8s l) (hn : l.length ≤ 140737488351232) :
    Calls Try.prog 13 #[.slice A0 l.length c0] w fun e w' => e = .returned (.tuple #[.agg (nums .i64 (D_timesOn l).1).toArray, .int .i64 (D_timesOn l).2]) ∧ Below w.heap.size w w' := by
  have HR := Aside0.mk hr
  have HC := Aside0.mk hc
  have HOK := Aside0.mk (L_implSteps l h8)
  have HZ0 := Aside0.mk (ArrAt.new w 24 .i64 (zer 64))
  have HB0 := Aside0.mk ((Below.refl w.heap.size w).alloc (Nat.le_refl _) (.cells (nums .i64 (zer 64)).toArray 24))
  clear hr hc hn
  go_enter Try.func13, Try.ntmps13
  go_wp2_with fail
  refine (impl_ValidSteps.calls A0 c0 l (decide (D_steps l)) _ (Kd.C_below HR.out HB0.out) HC.out HOK.out).mono ?_
  rintro e w1 ⟨rfl, hb⟩
  have HB1 := Aside0.mk (below_step HB0.out hb)
  have HZ1 := Aside0.mk (HZ0.out.below hb)
  clear hb HB0 HZ0
  by_cases hd : D_steps l
  · have hdd : decide (D_steps l) = true := decide_eq_true hd
    have HD := Aside0.mk hd
    have HE := Aside0.mk (show D_timesOn l = (D_times l, 0) from if_pos hd)
    clear hd
    go_wp2_with fail
    refine (impl_timesOn.arr A0 c0 l _ (Kd.C_below HR.out HB1.out) HC.out HD.out.1).mono ?_
    rintro e w2 ⟨rfl, hb⟩
    have HB2 := Aside0.mk (below_step HB1.out hb)
    have HZ2 := Aside0.mk (HZ1.out.below hb)
    obtain ⟨Z, hZ⟩ : ∃ Z, Z = D_times l := ⟨_, rfl⟩
    have HL := Aside0.mk (show Z.length = 64 by rw [hZ]; exact D_timesLen l)
    rw [← hZ]
    have HZZ := Aside0.mk hZ
    clear hb HB1 HZ1 hZ
    go_wp2_with (first | (refine arr_store rfl 24 _ _ rfl w.heap.size .i64 Z rfl rfl 24 (zer 64) HZ2.out 64 (by kernel_rfl) (zer_len 64) HL.out ?_))
    refine bodyPost_ret (results_ct rfl _ _ w.heap.size 24 (nums .i64 Z).toArray (0, 0) _ rfl HZ2.out.row Try.underlying24 rfl (by rw [show (Array.size (nums .i64 Z).toArray) = 64 by simp [nums, HL.out]]; kernel_rfl)) rfl ?_
    exact ⟨by rw [HE.out, HZZ.out]; rfl, below_row HB2.out (Nat.le_refl _) _⟩
  · have hdd : decide (D_steps l) = false := decide_eq_false hd
    have HE := Aside0.mk (show D_timesOn l = (zer 64, 1) from if_neg hd)
    clear hd
    go_wp2_with (first | (refine arr_store rfl 24 _ _ rfl w.heap.size .i64 (zer 64) rfl rfl 24 (zer 64) HZ1.out 64 (by kernel_rfl) (zer_len 64) (zer_len 64) ?_))
    refine bodyPost_ret (results_ct rfl _ _ w.heap.size 24 (nums .i64 (zer 64)).toArray (0, 0) _ rfl HZ1.out.row Try.underlying24 rfl (by rw [show (Array.size (nums .i64 (zer 64)).toArray) = 64 by simp [nums, zer]]; kernel_rfl)) rfl ?_
    exact ⟨by rw [HE.out]; rfl, below_row HB1.out (Nat.le_refl _) _⟩
set_option maxHeartbeats 8000000 in
set_option maxRecDepth 100000 in
theorem laws_FnExactTimesOn.arr (w : World) (A0 : Option Addr) (c0 : Nat) (l : List S82) (hr : Kd.C k82 w A0 l.length l) (hc : l.length ≤ c0) (hw : ∀ x ∈ l, 0 ≤ x.f0 ∧ x.f0 ≤ 18446744073709551615 ∧ -128 ≤ x.f1 ∧ x.f1 ≤ 127) (yy : l.length * 16 ≤ 140737488351232) :
    Calls Try.prog 3 #[.slice A0 l.length c0] w fun e w' => e = .returned (.bool true) ∧ Below w.heap.size w w' := by
  have HR := Aside0.mk hr
  have HC := Aside0.mk hc
  have HSZ := Aside0.mk (L_szSteps l yy)
  have H8 := Aside0.mk (L_map8 l hw)
  have hyy := yy
  clear hr hc hw yy
  by_cases hbig : 1048576 < (l.length : Int)
  · have HS2 := Aside0.mk (show laws_szStepS.f l 1048576 = some (-1) by rw [HSZ.out, if_pos hbig])
    clear hbig hyy
    go_enter Try.func3, Try.ntmps3
    go_wp2_with fail
    refine (laws_szStepS.calls _ _ l 1048576 (-1) _ HR.out HC.out HS2.out).mono ?_
    rintro e w1 ⟨rfl, hb⟩
    have HB1 := Aside0.mk hb.below
    clear hb
    go_wp2_with fail
    go_ret
    exact ⟨rfl, HB1.out⟩
  · have HS2 := Aside0.mk (show laws_szStepS.f l 1048576 = some (1048576 - (l.length : Int)) by rw [HSZ.out, if_neg hbig])
    have HT := Aside0.mk (L_toSteps l (by omega) (k := l.length + 1) (by omega))
    obtain ⟨m, hm⟩ : ∃ m, m = l.map D_step := ⟨_, rfl⟩
    rw [← hm] at HT H8
    have hml : m.length = l.length := by rw [hm]; simp
    have HN := Aside0.mk (show m.length ≤ 140737488351232 by omega)
    have HEQ := Aside0.mk (L_eqSteps m (by omega) (k := m.length + 1) (by omega))
    have hlt : decide ((1048576 : Int) - (l.length : Int) < 0) = false := decide_eq_false (by omega)
    obtain ⟨sz, hsz⟩ : ∃ sz, sz = (1048576 : Int) - (l.length : Int) := ⟨_, rfl⟩
    rw [← hsz] at HS2 hlt
    obtain ⟨Z, hZ⟩ : ∃ Z, Z = D_timesOn m := ⟨_, rfl⟩
    have HL := Aside0.mk (show Z.1.length = 64 by rw [hZ]; exact D_timesOn_len m)
    have HZ := Aside0.mk hZ
    clear hbig hyy hm hml hsz hZ HSZ
    go_enter Try.func3, Try.ntmps3
    go_wp2_with fail
    refine (laws_szStepS.calls _ _ l 1048576 sz _ HR.out HC.out HS2.out).mono ?_
    rintro e w1 ⟨rfl, hb⟩
    have HB1 := Aside0.mk hb.below
    clear hb
    go_wp2_with fail
    refine (laws_toStepS.calls _ _ _ l m _ (Kd.C_below HR.out HB1.out) HC.out HT.out).mono ?_
    rintro e w2 ⟨v1, rfl, ho, hb⟩
    obtain ⟨A1, c1, e1⟩ := Kd.R_slice ho
    subst e1
    have HR2 := Aside0.mk (Kd.R_reads' ho).2.2
    have HC2 := Aside0.mk (Kd.R_reads' ho).2.1
    have HB2 := Aside0.mk (below_step HB1.out hb)
    clear hb ho
    go_wp2_with fail
    refine (spec_TimesOn.arr A1 c1 m _ HR2.out HC2.out H8.out HN.out).mono ?_
    rintro e w3 ⟨rfl, hb⟩
    rw [← HZ.out]
    have HB3 := Aside0.mk (below_step HB2.out hb)
    have HO3 := Aside0.mk (ArrAt.new w3 24 .i64 (zer 64))
    have HO4 := Aside0.mk (HO3.out.row (ys := Z.1))
    have HB4 := Aside0.mk (below_row (below_alloc HB3.out (.cells (nums .i64 (zer 64)).toArray 24)) (below_size HB3.out : w.heap.size ≤ w3.heap.size) (nums .i64 Z.1).toArray)
    clear hb HR2 HC2 HB1 HB2
    go_wp2_with (first | (refine arr_store rfl 24 _ _ rfl w3.heap.size .i64 Z.1 rfl rfl 24 (zer 64) HO3.out 64 (by kernel_rfl) (zer_len 64) HL.out ?_))
    refine (laws_toStepS.calls _ _ _ l m _ (Kd.C_below HR.out HB4.out) HC.out HT.out).mono ?_
    rintro e w5 ⟨v2, rfl, ho, hb⟩
    obtain ⟨A2, c2, e2⟩ := Kd.R_slice ho
    subst e2
    have HR5 := Aside0.mk (Kd.R_reads' ho).2.2
    have HC5 := Aside0.mk (Kd.R_reads' ho).2.1
    have HB5 := Aside0.mk (below_step HB4.out hb)
    have HO5 := Aside0.mk (HO4.out.below hb)
    clear hb ho HO4 HB4 HO3 HB3
    go_wp2_with fail
    refine (impl_TimesOn.arr A2 c2 m _ HR5.out HC5.out H8.out HN.out).mono ?_
    rintro e w6 ⟨rfl, hb⟩
    rw [← HZ.out]
    have HR6 := Aside0.mk (Kd.C_below HR5.out hb)
    have HB6 := Aside0.mk (below_step HB5.out hb)
    have HO6 := Aside0.mk (HO5.out.below hb)
    have HW6 := Aside0.mk HO6.out.lt
    have HG6 := Aside0.mk (ArrAt.new w6 24 .i64 (zer 64))
    have HG7 := Aside0.mk (HG6.out.row (ys := Z.1))
    have HO7 := Aside0.mk ((HO6.out.alloc (.cells (nums .i64 (zer 64)).toArray 24)).rowOther (c := w6.heap.size) (by have := HW6.out; omega) (nums .i64 Z.1).toArray)
    have hba := below_row (below_alloc (Below.refl w6.heap.size w6) (.cells (nums .i64 (zer 64)).toArray 24)) (Nat.le_refl w6.heap.size) (nums .i64 Z.1).toArray
    have HR7 := Aside0.mk (Kd.C_below HR6.out hba)
    have HB7 := Aside0.mk (below_step HB6.out hba)
    clear hb hba HR5 HB5 HO5
    go_wp2_with (first | (refine arr_store rfl 24 _ _ rfl w6.heap.size .i64 Z.1 rfl rfl 24 (zer 64) HG6.out 64 (by kernel_rfl) (zer_len 64) HL.out ?_) | (refine arr_load rfl 24 _ rfl w6.heap.size rfl 24 .i64 Z.1 HG7.out _ Try.underlying24 rfl 64 (by kernel_rfl) HL.out ?_) | (refine arr_load rfl 24 _ rfl w3.heap.size rfl 24 .i64 Z.1 HO7.out _ Try.underlying24 rfl 64 (by kernel_rfl) HL.out ?_))
    refine (laws_eqInt64A64.arr Z.1 Z.1 HL.out HL.out _).mono ?_
    rintro e w8 ⟨rfl, hb⟩
    have HR8 := Aside0.mk (Kd.C_below HR7.out hb)
    have HB8 := Aside0.mk (below_step HB7.out hb)
    have ht : decide (Z.1 = Z.1) = true := decide_eq_true rfl
    have hn : (Z.2 != Z.2) = false := by simp
    clear hb HR7 HB7 HG7 HO7 HG6 HO6 HB6 HR6
    go_wp2_with fail
    refine (laws_toStepS.calls _ _ _ l m _ (Kd.C_below HR.out HB8.out) HC.out HT.out).mono ?_
    rintro e w9 ⟨v3, rfl, ho, hb⟩
    obtain ⟨A3, c3, e3⟩ := Kd.R_slice ho
    subst e3
    have HR9 := Aside0.mk (Kd.R_reads' ho).2.2
    have HC9 := Aside0.mk (Kd.R_reads' ho).2.1
    have HQ9 := Aside0.mk (Kd.C_below HR8.out hb)
    have HB9 := Aside0.mk (below_step HB8.out hb)
    clear hb ho HR8 HB8
    go_wp2_with fail
    refine (laws_eqStepS.calls _ _ _ m _ _ m true _ HQ9.out HC5.out HR9.out HC9.out HEQ.out).mono ?_
    rintro e w10 ⟨rfl, hb⟩
    have HB10 := Aside0.mk (below_step HB9.out hb)
    clear hb HR9 HQ9 HB9
    go_wp2_with fail
    go_ret
    exact ⟨rfl, HB10.out⟩
end Go.Proofs.Yticnajjbmdfidaa.Q
