-- Steps that are made for a print: the walks of StepsFor of both packages.
import Derived.Test.YticnajjbmdfidaaQx3
import Derived.Test.YticnajjbmdfidaaQx7
import Derived.Test.YticnajjbmdfidaaQx9
import Derived.Test.YticnajjbmdfidaaArrSfP
namespace Go.Proofs.Yticnajjbmdfidaa.Q
open Go.RowKit Go.Proofs.Yticnajjbmdfidaa.PL Go.Proofs.YticnajjbmdfidaaW.PrintWords Go.Proofs.YticnajjbmdfidaaW.PrintLast Go.Proofs.YticnajjbmdfidaaW.PrintMore
attribute [local go_sem] max2_int min2_int max_two min_two max_three min_three max_four min_four
set_option linter.unusedVariables false
set_option linter.unusedSimpArgs false
theorem ArrAt.grown {W W1 : World} {b : Nat} {T : TypeId} {k : IntKind} {xs : List Int} {row : Option Nat} (h : ArrAt W b T k xs) (hg : W.grownBy W1 row) (hne : some b ≠ row) : ArrAt W1 b T k xs := blk_grown h hg hne
theorem szU64 (w : World) : (sizeOf 63).run Try.prog w = .ok 1 w := by kernel_rfl
theorem agU64 (w : World) : (isAgg 63).run Try.prog w = .ok false w := by kernel_rfl
theorem szI16b (w : World) : (sizeOf 35).run Try.prog w = .ok 1 w := by kernel_rfl
theorem agI16b (w : World) : (isAgg 35).run Try.prog w = .ok false w := by kernel_rfl
set_option maxHeartbeats 8000000 in
set_option maxRecDepth 100000 in
theorem spec_StepsFor.arr (xs : List Int) (hl : xs.length = 64) (h16 : ∀ x ∈ xs, -32768 ≤ x ∧ x ≤ 32767) (A1 : Option Addr) (c1 : Nat) (l : List S91) (ts : List Int) (hm : ts.length = 64) (k16 : ∀ x ∈ ts, -32768 ≤ x ∧ x ≤ 32767) (w : World)
    (hr1 : Kd.C k91 w A1 l.length l) (hc1 : l.length ≤ c1) (h1 : D_i16s l) (n1 : l.length ≤ 140737488351232) :
    Calls Try.prog 29 #[.agg (nums .i16 xs).toArray, .slice A1 l.length c1, .agg (nums .i16 ts).toArray] w fun e w' => ∃ v0_ : Value, e = .returned (.tuple #[v0_, .int .i64 (D_stepsFor xs l ts).2]) ∧ Kd.R k76 76 w' w.heap.size (fun _ => True) v0_ (D_stepsFor xs l ts).1 ∧ Below w.heap.size w w' := by
  have HX := Aside0.mk hl
  have HM := Aside0.mk hm
  have H16 := Aside0.mk h16
  have K16 := Aside0.mk k16
  have HC1 := Aside0.mk hc1
  have H1 := Aside0.mk h1
  have N1 := Aside0.mk n1
  have hba := arr_below2 w (.cells (nums .i16 xs).toArray 42) (.cells (nums .i16 ts).toArray 39)
  have HA0 := Aside0.mk (arr_new2a w 42 .i16 xs (.cells (nums .i16 ts).toArray 39))
  have HT0 := Aside0.mk (arr_new2b w (.cells (nums .i16 xs).toArray 42) 39 .i16 ts)
  have HB0 := Aside0.mk hba
  have HR := Aside0.mk hr1
  clear hl hm h16 k16 hr1 hc1 h1 n1 hba
  go_enter Try.func29, Try.ntmps29
  go_wp2_with fail
  refine (spec_l03Negative.arr w.heap.size xs HX.out H16.out _ HA0.out).mono ?_
  rintro e w1 ⟨rfl, hb⟩
  have HA1 := Aside0.mk (HA0.out.below hb)
  have HT1 := Aside0.mk (HT0.out.below hb)
  have HB1 := Aside0.mk (below_step HB0.out hb)
  clear hb HA0 HT0 HB0
  by_cases hq : D_dense xs
  rotate_left
  · have hdd : decide (D_dense xs) = false := decide_eq_false hq
    have HE := Aside0.mk (show D_stepsFor xs l ts = ([], 1) from if_neg (fun h => hq h.1))
    clear hq
    go_wp2_with (first | ((with_reducible refine gate_dst (N := 24) rfl ?_); refine Kd.R_lit k76 _ 76 ?hg (N := 24) ?hd (xs := ([] : List S76)) (inner := []) (ok := fun _ => True) (okp := fun _ => True) ?hr ?hp (fun _ hk => hk) trivial (Below.refl _ _) (Nat.le_refl _) (by simp) ?_; (case hd => rfl); (case hg => rfl); (case hr => first | (go_simp; done) | (go_simp; rfl)); (case hp => exact (Reps.none _ _)); intro v24 w4 ho7 hb hg_ hnew_; clear hg_ hnew_; have HO4 := Aside0.mk (Kd.R_lower ho7 (below_size HB1.out)); have HB4 := Aside0.mk (below_step HB1.out hb); clear hb ho7))
    go_ret2
    exact ⟨_, by rw [HE.out]; rfl, by rw [HE.out]; exact HO4.out, HB4.out⟩
  have hdd : decide (D_dense xs) = true := decide_eq_true hq
  have HQ0 := Aside0.mk hq
  clear hq
  go_wp2_with fail
  refine (spec_l02Ok.calls (l.length + 1) _ _ l _ _ (Kd.C_below HR.out HB1.out) HC1.out (L_specCurve l H1.out N1.out (Nat.lt_succ_self _))).mono ?_
  rintro e w2 ⟨rfl, hb⟩
  have HA2 := Aside0.mk (HA1.out.below hb)
  have HT2 := Aside0.mk (HT1.out.below hb)
  have HB2 := Aside0.mk (below_step HB1.out hb)
  clear hb HA1 HT1 HB1
  by_cases hq : D_curve l = true
  rotate_left
  · have hd2 : D_curve l = false := Bool.eq_false_iff.mpr hq
    have HE := Aside0.mk (show D_stepsFor xs l ts = ([], 1) from if_neg (fun h => hq h.2.1))
    clear hq
    go_wp2_with (first | ((with_reducible refine gate_dst (N := 24) rfl ?_); refine Kd.R_lit k76 _ 76 ?hg (N := 24) ?hd (xs := ([] : List S76)) (inner := []) (ok := fun _ => True) (okp := fun _ => True) ?hr ?hp (fun _ hk => hk) trivial (Below.refl _ _) (Nat.le_refl _) (by simp) ?_; (case hd => rfl); (case hg => rfl); (case hr => first | (go_simp; done) | (go_simp; rfl)); (case hp => exact (Reps.none _ _)); intro v24 w4 ho7 hb hg_ hnew_; clear hg_ hnew_; have HO4 := Aside0.mk (Kd.R_lower ho7 (below_size HB2.out)); have HB4 := Aside0.mk (below_step HB2.out hb); clear hb ho7))
    go_ret2
    exact ⟨_, by rw [HE.out]; rfl, by rw [HE.out]; exact HO4.out, HB4.out⟩
  have HQ1 := Aside0.mk hq
  go_wp2_with fail
  clear hq
  refine (spec_l03Print.arr (w.heap.size + 1) ts HM.out K16.out _ HT2.out).mono ?_
  rintro e w3 ⟨rfl, hb⟩
  have HA3 := Aside0.mk (HA2.out.below hb)
  have HT3 := Aside0.mk (HT2.out.below hb)
  have HB3 := Aside0.mk (below_step HB2.out hb)
  clear hb HA2 HT2 HB2
  by_cases hq : D_dense ts
  rotate_left
  · have hd2 : decide (D_dense ts) = false := decide_eq_false hq
    have HE := Aside0.mk (show D_stepsFor xs l ts = ([], 1) from if_neg (fun h => hq h.2.2))
    clear hq
    go_wp2_with (first | ((with_reducible refine gate_dst (N := 24) rfl ?_); refine Kd.R_lit k76 _ 76 ?hg (N := 24) ?hd (xs := ([] : List S76)) (inner := []) (ok := fun _ => True) (okp := fun _ => True) ?hr ?hp (fun _ hk => hk) trivial (Below.refl _ _) (Nat.le_refl _) (by simp) ?_; (case hd => rfl); (case hg => rfl); (case hr => first | (go_simp; done) | (go_simp; rfl)); (case hp => exact (Reps.none _ _)); intro v24 w4 ho7 hb hg_ hnew_; clear hg_ hnew_; have HO4 := Aside0.mk (Kd.R_lower ho7 (below_size HB3.out)); have HB4 := Aside0.mk (below_step HB3.out hb); clear hb ho7))
    go_ret2
    exact ⟨_, by rw [HE.out]; rfl, by rw [HE.out]; exact HO4.out, HB4.out⟩
  have hd2 : decide (D_dense ts) = true := decide_eq_true hq
  have HQ2 := Aside0.mk hq
  clear hq
  have HE0 := Aside0.mk (show D_stepsFor xs l ts = if D_bad (D_need l xs ts) then ([], 6) else (D_sfList (D_need l xs ts) 37 0 [], 0) from if_pos ⟨HQ0.out, HQ1.out, HQ2.out⟩)
  obtain ⟨nd, hnd⟩ : ∃ nd, nd = D_need l xs ts := ⟨_, rfl⟩
  rw [← hnd] at HE0
  have HRG := Aside0.mk (fun (j : Int) (_ : 0 ≤ j) (_ : j < 64) => show nd j ≤ 37 by rw [hnd]; exact (L_needRange l xs ts j).2)
  have HSF := Aside0.mk (fun (L dn : Int) (h0 : 0 ≤ L) (h1 : L ≤ 36) (hu : U64 dn) (hd : ∀ j : Int, 0 ≤ j → j < 64 → tb dn j = decide (nd j < L)) => show Go.bits .andNot .u64 (D_sfMaskFrom l xs ts L 64 0 0) dn = D_msk nd L by rw [hnd] at hd ⊢; exact L_sfRound l xs ts h0 h1 hu hd)
  have HND := Aside0.mk (fun (j : Int) => show 0 ≤ nd j by rw [hnd]; exact (L_needRange l xs ts j).1)
  clear hnd
  go_wp2_with (first | ((with_reducible refine gate_dst (N := 25) rfl ?_); refine Kd.R_lit k76 _ 76 ?hg (N := 25) ?hd (xs := ([] : List S76)) (inner := []) (ok := fun _ => True) (okp := fun _ => True) ?hr ?hp (fun _ hk => hk) trivial (Below.refl _ _) (Nat.le_refl _) (by simp) ?_; (case hd => rfl); (case hg => rfl); (case hr => first | (go_simp; done) | (go_simp; rfl)); (case hp => exact (Reps.none _ _)); intro v25 w4 ho7 hb hg_ hnew_; clear hg_ hnew_; have HO4 := Aside0.mk (Kd.R_lower ho7 (below_size HB3.out)); have HB4 := Aside0.mk (below_step HB3.out hb); have HA4 := Aside0.mk (HA3.out.below hb); have HT4 := Aside0.mk (HT3.out.below hb); clear hb ho7))
  go_loopg [8, 9, 10] 37 (fun kq v8 v9 v10 w' => ∃ (o : List S76) (dn L : Int) (W : World), W = w' ∧ v9 = .int .u64 dn ∧ v10 = .int .i64 L ∧ Aside0 (0 ≤ L ∧ L + kq = 37) ∧ Aside0 (D_sfList nd 37 0 [] = D_sfList nd kq L o ∧ (o.length : Int) ≤ L) ∧ Aside0 (U64 dn ∧ ∀ j : Int, 0 ≤ j → j < 64 → tb dn j = decide (nd j < L)) ∧
      Aside0 (Kd.R k76 76 W w.heap.size (fun _ => True) v8 o) ∧ Aside0 (ArrAt W w.heap.size 42 .i16 xs) ∧ Aside0 (ArrAt W (w.heap.size + 1) 39 .i16 ts) ∧ Aside0 (Below w.heap.size w W))
  case atStart => exact ⟨[], 0, 0, _, rfl, rfl, rfl, ⟨by omega⟩, ⟨rfl, by simp⟩, ⟨u64_zero, fun j _ _ => by rw [tb_zero, decide_eq_false (by have := HND.out j; omega)]⟩, HO4, HA4, HT4, HB4⟩
  case round =>
    clear HO4 HA4 HT4 HB4 HA3 HT3 HB3
    obtain ⟨o, dn, L, W, rfl, rfl, rfl, HI, HF, HU, HO, HA, HT, HB⟩ := hrel
    cases gk with
    | zero =>
      have hdec : decide (L ≤ 36) = false := decide_eq_false (by have := HI.out; omega)
      have hL : L = 37 := by have := HI.out; omega
      have hu := HU.out
      rw [hL] at hu
      have HALL := Aside0.mk (L_sfAll nd HRG.out hu.1 hu.2)
      have HF2 := Aside0.mk (show D_sfList nd 37 0 [] = o from HF.out.1)
      clear hL hu
      by_cases hbad : D_bad nd
      · have hne : (Go.bits .xor .u64 (if IntKind.u64.signed = true then -1 else IntKind.u64.max) dn != 0) = true := by rw [u64_compl HU.out.1]; simp; exact fun e => (HALL.out.1 e) hbad
        have HE := Aside0.mk (show D_stepsFor xs l ts = ([], 6) by rw [HE0.out, if_pos hbad])
        clear hbad
        go_wp2_with (first | ((with_reducible refine gate_dst (N := 67) rfl ?_); refine Kd.R_lit k76 _ 76 ?hg (N := 67) ?hd (xs := ([] : List S76)) (inner := []) (ok := fun _ => True) (okp := fun _ => True) ?hr ?hp (fun _ hk => hk) trivial (Below.refl _ _) (Nat.le_refl _) (by simp) ?_; (case hd => rfl); (case hg => rfl); (case hr => first | (go_simp; done) | (go_simp; rfl)); (case hp => exact (Reps.none _ _)); intro v67 w4 ho7 hb hg_ hnew_; clear hg_ hnew_; have HO4 := Aside0.mk (Kd.R_lower ho7 (below_size HB.out)); have HB4 := Aside0.mk (below_step HB.out hb); clear hb ho7))
        go_ret2
        exact ⟨_, by rw [HE.out]; rfl, by rw [HE.out]; exact HO4.out, HB4.out⟩
      · have hne : (Go.bits .xor .u64 (if IntKind.u64.signed = true then -1 else IntKind.u64.max) dn != 0) = false := by rw [u64_compl HU.out.1]; simp; exact HALL.out.2 hbad
        have HE := Aside0.mk (show D_stepsFor xs l ts = (o, 0) by rw [HE0.out, if_neg hbad, HF2.out])
        clear hbad
        go_wp2_with fail
        go_ret2
        exact ⟨_, by rw [HE.out]; rfl, by rw [HE.out]; exact HO.out, HB.out⟩
    | succ k1 =>
      have h0 := HI.out.1
      have hL : L ≤ 36 := by have := HI.out; omega
      have hdec : decide (L ≤ 36) = true := decide_eq_true hL
      go_wp2_with fail
      go_loopg [11, 12] 64 (fun kj v11 v12 w' => ∃ (a j : Int) (V : World), V = w' ∧ v11 = .int .u64 a ∧ v12 = .int .i64 j ∧ Aside0 (0 ≤ j ∧ j + kj = 64) ∧ Aside0 (D_sfMaskFrom l xs ts L 64 0 0 = D_sfMaskFrom l xs ts L kj a j) ∧
        Aside0 (Kd.R k76 76 V w.heap.size (fun _ => True) u8 o) ∧ Aside0 (ArrAt V w.heap.size 42 .i16 xs) ∧ Aside0 (ArrAt V (w.heap.size + 1) 39 .i16 ts) ∧ Aside0 (Below w.heap.size w V))
      case atStart => exact ⟨0, 0, _, rfl, rfl, rfl, ⟨by omega⟩, ⟨rfl⟩, HO, HA, HT, HB⟩
      case round =>
        clear HO HA HT HB
        obtain ⟨a, j, V, rfl, rfl, rfl, HJ, HK, HO, HA, HT, HB⟩ := hrel
        cases gk with
        | zero =>
          have hdec2 : decide (j < 64) = false := decide_eq_false (by have := HJ.out; omega)
          have HMK := Aside0.mk (show Go.bits .andNot .u64 a dn = D_msk nd L by have := HSF.out L dn h0 hL HU.out.1 HU.out.2; rwa [HK.out] at this)
          have HW8 := Aside0.mk (show IntKind.i8.wrap L = L from L_w8 (by omega))
          have HE9 := Aside0.mk (show wrap64 (L + 1) = L + 1 by unfold wrap64; omega)
          by_cases hz : Go.bits .andNot .u64 a dn = 0
          · have hzz : (Go.bits .andNot .u64 a dn != 0) = false := by simp [hz]
            have HD1 := Aside0.mk (show ∀ j : Int, 0 ≤ j → j < 64 → tb dn j = decide (nd j < L + 1) from L_sfDone0 nd HU.out.2 (by rw [← HMK.out]; exact hz))
            have HZ := Aside0.mk hz
            clear hz
            go_wp2_with fail
            go_roundg k1
            case measure => omega
            case rel => exact ⟨o, dn, L + 1, _, rfl, rfl, rfl, ⟨by have := HI.out; omega⟩, ⟨by rw [HF.out.1]; simp only [D_sfList]; rw [if_pos (by rw [← HMK.out]; exact HZ.out)], by have := HF.out.2; omega⟩, ⟨HU.out.1, HD1.out⟩, HO, HA, HT, HB⟩
          · have hzz : (Go.bits .andNot .u64 a dn != 0) = true := by simp [hz]
            have HD1 := Aside0.mk (L_sfDone1 nd HU.out.1 HU.out.2)
            have HZ := Aside0.mk hz
            clear hz
            have hw8 := HW8.out
            go_wp2_with (first | ((with_reducible refine gate_builtin (b := .append) (xs := #[.tmp 54, .tmp 59]) rfl ?_); at_builtin; refine Kd.R_append k76 (w0 := w) w.heap.size rfl (.tmp 54) (.tmp 59) 27 76 (.agg #[(.int .u64 0), (.int .i8 0)]) 16 rfl Try.underlying27 info76 rfl (by decide) (by omega) u8 o (⟨Go.bits .andNot .u64 a dn, L⟩ : S76) [.int .u64 (Go.bits .andNot .u64 a dn), .int .i8 L] (fun _ => True) (fun _ => False) rfl (by show Value.slice (some ⟨V.heap.size, 0, none⟩) 1 1 = _; simp) ?aP (fun _ hk => hk.elim) ?aF ?aO ?aB ?aS ?aL ?_; (case aP => exact k76_mkM _ _ _ (⟨Go.bits .andNot .u64 a dn, L⟩ : S76)); (case aB => exact HB.out); (case aF => exact (fun _ _ => trivial)); (case aO => exact HO.out); (case aS => exact below_size HB.out); (case aL => have := HF.out.2; omega); intro v60 w8 ho hb hg hat; have HB8 := Aside0.mk hb; have HO8 := Aside0.mk ho; have HA8 := Aside0.mk (HA.out.grown hg (Kd.R_ne HO.out HA.out (by decide))); have HT8 := Aside0.mk (HT.out.grown hg (Kd.R_ne HO.out HT.out (by decide))); clear ho hb hg hat))
            clear hw8
            go_roundg k1
            case measure => omega
            case rel => exact ⟨_, _, L + 1, _, rfl, rfl, rfl, ⟨by have := HI.out; omega⟩, ⟨by rw [HF.out.1]; simp only [D_sfList]; rw [if_neg (by rw [← HMK.out]; exact HZ.out), ← HMK.out], by have := HF.out.2; simp; omega⟩, ⟨by rw [HMK.out]; exact HD1.out⟩, HO8, HA8, HT8, HB8⟩
        | succ j1 =>
          have j0 := HJ.out.1
          have hj : j < 64 := by have := HJ.out; omega
          have HX1 := Aside0.mk ((L_printed HQ1.out (arr_rd (P := fun x => 0 ≤ x ∧ x ≤ 400) HQ0.out j0 (by rw [HX.out]; omega)) (show -1 ≤ L ∧ L ≤ 36 by omega) (Nat.le_refl 13)).1)
          have hju : IntKind.u64.wrap j = j := by simp [IntKind.wrap, IntKind.bits, IntKind.signed]; omega
          have c1 : V.cell? ⟨w.heap.size, j.toNat, none⟩ = some (.int .i16 (rd xs j)) := HA.out.cell j0 (by rw [HX.out]; omega)
          have c2 : V.cell? ⟨w.heap.size + 1, j.toNat, none⟩ = some (.int .i16 (rd ts j)) := HT.out.cell j0 (by rw [HM.out]; omega)
          have d1 : V.drew.cell? ⟨w.heap.size, j.toNat, none⟩ = some (.int .i16 (rd xs j)) := by simpa using c1
          have d2 : V.drew.cell? ⟨w.heap.size + 1, j.toNat, none⟩ = some (.int .i16 (rd ts j)) := by simpa using c2
          go_wp2_with fail
          refine wp_region_held_drew (S := fun w' => w'.cell? ⟨w.heap.size, j.toNat, none⟩ = some (.int .i16 (rd xs j)) ∧ w'.cell? ⟨w.heap.size + 1, j.toNat, none⟩ = some (.int .i16 (rd ts j))) (by kernel_rfl) ⟨d1, d2⟩ (fun hHeld => ?_)
          refine wpAnyH_take (i := 0) (v := ?_) rfl (by kernel_rfl) (by kernel_rfl) (by kernel_rfl) (fun _ _ _ h => h) (Or.inl ⟨by rfl, ?_⟩) (by assumption) ?_
          rotate_left
          · intro w hSw
            go_simp
            with_reducible rfl
          try simp only [List.getElem_toArray, List.getElem_cons_succ, List.getElem_cons_zero, Act.put, List.setIfInBounds_toArray, List.set_cons_zero, List.set_cons_succ]
          refine wpAnyH_take (i := 1) (v := ?_) rfl (by kernel_rfl) (by kernel_rfl) (by kernel_rfl) (fun _ _ _ h => h) (Or.inl ⟨by rfl, ?_⟩) (by assumption) ?_
          rotate_left
          · intro w hSw
            go_simp
            with_reducible rfl
          try simp only [List.getElem_toArray, List.getElem_cons_succ, List.getElem_cons_zero, Act.put, List.setIfInBounds_toArray, List.set_cons_zero, List.set_cons_succ]
          refine wpAnyH_take (i := 2) (v := ?_) rfl (by kernel_rfl) (by kernel_rfl) (by kernel_rfl) (fun _ _ _ h => h) (Or.inl ⟨by rfl, ?_⟩) (by assumption) ?_
          rotate_left
          · intro w hSw
            go_simp
            with_reducible rfl
          try simp only [List.getElem_toArray, List.getElem_cons_succ, List.getElem_cons_zero, Act.put, List.setIfInBounds_toArray, List.set_cons_zero, List.set_cons_succ]
          refine wpAnyH_take (i := 3) (v := ?_) rfl (by kernel_rfl) (by kernel_rfl) (by kernel_rfl) (fun _ _ _ h => h) (Or.inl ⟨by rfl, ?_⟩) (by assumption) ?_
          rotate_left
          · intro w hSw
            go_simp
            with_reducible rfl
          try simp only [List.getElem_toArray, List.getElem_cons_succ, List.getElem_cons_zero, Act.put, List.setIfInBounds_toArray, List.set_cons_zero, List.set_cons_succ]
          refine wpAnyH_take (i := 4) (v := ?_) rfl (by kernel_rfl) (by kernel_rfl) (by kernel_rfl) (fun _ _ _ h => h) (Or.inl ⟨by rfl, ?_⟩) (by assumption) ?_
          rotate_left
          · intro w hSw
            go_simp
            with_reducible rfl
          try simp only [List.getElem_toArray, List.getElem_cons_succ, List.getElem_cons_zero, Act.put, List.setIfInBounds_toArray, List.set_cons_zero, List.set_cons_succ]
          refine wpAnyH_take (i := 6) (v := ?_) rfl (by kernel_rfl) (by kernel_rfl) (by kernel_rfl) (fun _ _ _ h => h) (Or.inl ⟨by rfl, ?_⟩) (by assumption) ?_
          rotate_left
          · intro w hSw
            go_simp
            with_reducible rfl
          try simp only [List.getElem_toArray, List.getElem_cons_succ, List.getElem_cons_zero, Act.put, List.setIfInBounds_toArray, List.set_cons_zero, List.set_cons_succ]
          refine wpAnyH_take (i := 7) (v := ?_) rfl (by kernel_rfl) (by kernel_rfl) (by kernel_rfl) (fun _ _ _ h => h) (Or.inl ⟨by rfl, ?_⟩) (by assumption) ?_
          rotate_left
          · intro w hSw
            go_simp
            with_reducible rfl
          try simp only [List.getElem_toArray, List.getElem_cons_succ, List.getElem_cons_zero, Act.put, List.setIfInBounds_toArray, List.set_cons_zero, List.set_cons_succ]
          refine wpAnyH_take (i := 8) (v := ?_) rfl (by kernel_rfl) (by kernel_rfl) (by kernel_rfl) (fun _ _ _ h => h) (Or.inl ⟨by rfl, ?_⟩) (by assumption) ?_
          rotate_left
          · intro w hSw
            go_simp
            with_reducible rfl
          try simp only [List.getElem_toArray, List.getElem_cons_succ, List.getElem_cons_zero, Act.put, List.setIfInBounds_toArray, List.set_cons_zero, List.set_cons_succ]
          refine wpAnyH_ready (rs := [5]) (by kernel_rfl) (by simp) ?_
          refine AllReadyH.cons rfl (fun K hK => ?_) AllReadyH.nil
          go_simp
          refine (spec_l03Printed.calls 13 _ _ _ l _ _ _ (Kd.C_below HR.out (below_drew1 HB.out)) HC1.out HX1.out).mono ?_
          rintro e w5 ⟨rfl, hb⟩
          have HB5 := Aside0.mk (below_step (below_drew1 HB.out) hb)
          have HA5 := Aside0.mk (ArrAt.below (W := V.drew) HA.out hb)
          have HT5 := Aside0.mk (ArrAt.below (W := V.drew) HT.out hb)
          have HO5 := Aside0.mk (Kd.R_below (Kd.R_drew HO.out) hb)
          clear hb c1 c2 d1 d2
          go_wp2_with fail
          refine hK.out _ _ ⟨HA5.out.cell j0 (by rw [HX.out]; omega), HT5.out.cell j0 (by rw [HM.out]; omega)⟩ (fun hHeld => ?_)
          clear hK K
          try simp only [List.getElem_toArray, List.getElem_cons_succ, List.getElem_cons_zero, Act.put, List.setIfInBounds_toArray, List.set_cons_zero, List.set_cons_succ]
          refine wpAnyH_take (i := 9) (v := ?_) rfl (by kernel_rfl) (by kernel_rfl) (by kernel_rfl) (fun _ _ _ h => h) (Or.inl ⟨by rfl, ?_⟩) (by assumption) ?_
          rotate_left
          · intro w hSw
            go_simp
            with_reducible rfl
          try simp only [List.getElem_toArray, List.getElem_cons_succ, List.getElem_cons_zero, Act.put, List.setIfInBounds_toArray, List.set_cons_zero, List.set_cons_succ]
          refine wpAnyH_done (by kernel_rfl) ?_ _
          clear hHeld
          by_cases ho : rd ts j ≤ D_cell l (rd xs j) L
          · have hoo : decide (rd ts j ≤ D_cell l (rd xs j) L) = true := decide_eq_true ho
            have HF1 := Aside0.mk (show D_sfMaskFrom l xs ts L 64 0 0 = D_sfMaskFrom l xs ts L j1 (Go.bits .or .u64 a (IntKind.u64.wrap (2 ^ j.toNat))) (j + 1) by rw [HK.out]; simp only [D_sfMaskFrom]; rw [if_pos ho])
            go_wp2_with fail
            clear ho
            go_roundg j1
            case measure => omega
            case rel => exact ⟨_, j + 1, _, rfl, rfl, rfl, ⟨by have := HJ.out; omega⟩, HF1, HO5, HA5, HT5, HB5⟩
          · have hoo : decide (rd ts j ≤ D_cell l (rd xs j) L) = false := decide_eq_false ho
            have HF1 := Aside0.mk (show D_sfMaskFrom l xs ts L 64 0 0 = D_sfMaskFrom l xs ts L j1 a (j + 1) by rw [HK.out]; simp only [D_sfMaskFrom]; rw [if_neg ho])
            go_wp2_with fail
            clear ho
            go_roundg j1
            case measure => omega
            case rel => exact ⟨_, j + 1, _, rfl, rfl, rfl, ⟨by have := HJ.out; omega⟩, HF1, HO5, HA5, HT5, HB5⟩
set_option maxHeartbeats 8000000 in
set_option maxRecDepth 100000 in
theorem impl_StepsFor.arr (xs : List Int) (hl : xs.length = 64) (h16 : ∀ x ∈ xs, -32768 ≤ x ∧ x ≤ 32767) (A1 : Option Addr) (c1 : Nat) (l : List S91) (ts : List Int) (hm : ts.length = 64) (k16 : ∀ x ∈ ts, -32768 ≤ x ∧ x ≤ 32767) (w : World)
    (hr1 : Kd.C k91 w A1 l.length l) (hc1 : l.length ≤ c1) (h1 : D_i16s l) (n1 : l.length ≤ 140737488351232) :
    Calls Try.prog 31 #[.agg (nums .i16 xs).toArray, .slice A1 l.length c1, .agg (nums .i16 ts).toArray] w fun e w' => ∃ v0_ : Value, e = .returned (.tuple #[v0_, .int .i64 (D_stepsFor xs l ts).2]) ∧ Kd.R k76 76 w' w.heap.size (fun _ => True) v0_ (D_stepsFor xs l ts).1 ∧ Below w.heap.size w w' := by
  have HX := Aside0.mk hl
  have HM := Aside0.mk hm
  have H16 := Aside0.mk h16
  have K16 := Aside0.mk k16
  have HC1 := Aside0.mk hc1
  have H1 := Aside0.mk h1
  have N1 := Aside0.mk n1
  have hba := arr_below2 w (.cells (nums .i16 xs).toArray 42) (.cells (nums .i16 ts).toArray 39)
  have HA0 := Aside0.mk (arr_new2a w 42 .i16 xs (.cells (nums .i16 ts).toArray 39))
  have HT0 := Aside0.mk (arr_new2b w (.cells (nums .i16 xs).toArray 42) 39 .i16 ts)
  have HB0 := Aside0.mk hba
  have HR := Aside0.mk hr1
  clear hl hm h16 k16 hr1 hc1 h1 n1 hba
  go_enter Try.func31, Try.ntmps31
  go_wp2_with (first | (refine arr_load rfl 42 _ rfl w.heap.size rfl 42 .i16 xs HA0.out _ Try.underlying42 rfl 64 (by kernel_rfl) HX.out ?_))
  refine (impl_ValidNegative.arr xs HX.out H16.out _).mono ?_
  rintro e w1 ⟨rfl, hb⟩
  have HA1 := Aside0.mk (HA0.out.below hb)
  have HT1 := Aside0.mk (HT0.out.below hb)
  have HB1 := Aside0.mk (below_step HB0.out hb)
  clear hb HA0 HT0 HB0
  by_cases hq : D_dense xs
  rotate_left
  · have hdd : decide (D_dense xs) = false := decide_eq_false hq
    have HE := Aside0.mk (show D_stepsFor xs l ts = ([], 1) from if_neg (fun h => hq h.1))
    clear hq
    go_wp2_with fail
    go_ret2
    exact ⟨_, by rw [HE.out]; rfl, by rw [HE.out]; exact Kd.R_nil _ _ _ _ _, HB1.out⟩
  have hdd : decide (D_dense xs) = true := decide_eq_true hq
  have HQ0 := Aside0.mk hq
  clear hq
  go_wp2_with fail
  refine (impl_ValidCurve.calls (l.length + 1) _ _ l _ _ (Kd.C_below HR.out HB1.out) HC1.out (L_implCurve l H1.out N1.out (Nat.lt_succ_self _))).mono ?_
  rintro e w2 ⟨rfl, hb⟩
  have HA2 := Aside0.mk (HA1.out.below hb)
  have HT2 := Aside0.mk (HT1.out.below hb)
  have HB2 := Aside0.mk (below_step HB1.out hb)
  clear hb HA1 HT1 HB1
  by_cases hq : D_curve l = true
  rotate_left
  · have hd2 : D_curve l = false := Bool.eq_false_iff.mpr hq
    have HE := Aside0.mk (show D_stepsFor xs l ts = ([], 1) from if_neg (fun h => hq h.2.1))
    clear hq
    go_wp2_with fail
    go_ret2
    exact ⟨_, by rw [HE.out]; rfl, by rw [HE.out]; exact Kd.R_nil _ _ _ _ _, HB2.out⟩
  have HQ1 := Aside0.mk hq
  go_wp2_with (first | (refine arr_loadG (by rfl) 39 _ rfl (w.heap.size + 1) rfl 39 .i16 ts HT2.out _ Try.underlying39 rfl 64 (by kernel_rfl) HM.out ?_))
  clear hq
  refine (impl_ValidPrint.arr ts HM.out K16.out _).mono ?_
  rintro e w3 ⟨rfl, hb⟩
  have HA3 := Aside0.mk (HA2.out.below hb)
  have HT3 := Aside0.mk (HT2.out.below hb)
  have HB3 := Aside0.mk (below_step HB2.out hb)
  clear hb HA2 HT2 HB2
  by_cases hq : D_dense ts
  rotate_left
  · have hd2 : decide (D_dense ts) = false := decide_eq_false hq
    have HE := Aside0.mk (show D_stepsFor xs l ts = ([], 1) from if_neg (fun h => hq h.2.2))
    clear hq
    go_wp2_with fail
    go_ret2
    exact ⟨_, by rw [HE.out]; rfl, by rw [HE.out]; exact Kd.R_nil _ _ _ _ _, HB3.out⟩
  have hd2 : decide (D_dense ts) = true := decide_eq_true hq
  have HQ2 := Aside0.mk hq
  clear hq
  have HE0 := Aside0.mk (show D_stepsFor xs l ts = if D_bad (D_need l xs ts) then ([], 6) else (D_sfList (D_need l xs ts) 37 0 [], 0) from if_pos ⟨HQ0.out, HQ1.out, HQ2.out⟩)
  obtain ⟨nd, hnd⟩ : ∃ nd, nd = D_need l xs ts := ⟨_, rfl⟩
  rw [← hnd] at HE0
  have HRG := Aside0.mk (fun (j : Int) (_ : 0 ≤ j) (_ : j < 64) => show nd j ≤ 37 by rw [hnd]; exact (L_needRange l xs ts j).2)
  have HUQ := Aside0.mk (fun (i k : Int) (h0 : 0 ≤ k ∧ k ≤ 37) (h1 : ∀ j, 0 ≤ j → j < k → D_cell l (rd xs i) j < rd ts i) (h2 : k ≤ 36 → rd ts i ≤ D_cell l (rd xs i) k) => show k = nd i by rw [hnd]; exact L_needUniq l xs ts i h0 h1 h2)
  clear hnd
  have HG3 := Aside0.mk (ArrAt.new w3 101 .u64 (zer 37))
  have hba := below_row (below_alloc (Below.refl w3.heap.size w3) (.cells (nums .u64 (zer 37)).toArray 101)) (Nat.le_refl w3.heap.size) (nums .u64 (zer 37)).toArray
  have HG4 := Aside0.mk (HG3.out.row (ys := zer 37))
  have HA4 := Aside0.mk (HA3.out.below hba)
  have HT4 := Aside0.mk (HT3.out.below hba)
  have HB4 := Aside0.mk (below_step HB3.out hba)
  have HGT := Aside0.mk (show w.heap.size + 1 < w3.heap.size from HT3.out.lt)
  clear hba HA3 HT3 HB3
  go_wp2_with (first | (refine arr_store rfl 101 _ _ rfl w3.heap.size .u64 (zer 37) rfl rfl 101 (zer 37) HG3.out 37 (by kernel_rfl) (zer_len 37) (zer_len 37) ?_) | (refine arr_load rfl 39 _ rfl (w.heap.size + 1) rfl 39 .i16 ts HT4.out _ Try.underlying39 rfl 64 (by kernel_rfl) HM.out ?_))
  go_loopg [30] 64 (fun kq v30 w' => ∃ (i : Int) (ms : List Int) (W : World), W = w' ∧ v30 = .int .i64 i ∧ Aside0 (0 ≤ i ∧ i + kq = 64) ∧ Aside0 (ms.length = 37 ∧ (∀ v : Int, 0 ≤ v → v < 37 → rd ms v = D_mskTo nd v i.toNat) ∧ ∀ j : Int, 0 ≤ j → j < i → nd j ≤ 36) ∧
      Aside0 (ArrAt W w.heap.size 42 .i16 xs) ∧ Aside0 (ArrAt W w3.heap.size 101 .u64 ms) ∧ Aside0 (Below w.heap.size w W))
  case atStart => exact ⟨0, zer 37, _, rfl, rfl, ⟨by omega⟩, ⟨zer_len 37, fun v h0 h1 => by simp only [Int.toNat_zero, D_mskTo]; unfold rd zer; rw [List.getD_eq_getElem?_getD, List.getElem?_replicate]; split <;> rfl, fun j h0 h1 => by omega⟩, HA4, HG4, HB4⟩
  case round =>
    clear HA4 HG4 HB4 HT4 HG3
    obtain ⟨i, ms, W, rfl, rfl, HI, HY, HA, HG, HB⟩ := hrel
    cases gk with
    | zero =>
      have hdec : decide (i < 64) = false := decide_eq_false (by have := HI.out; omega)
      have hi64 : i = 64 := by have := HI.out; omega
      have HML := Aside0.mk HY.out.1
      have HMS := Aside0.mk (show ∀ v : Int, 0 ≤ v → v < 37 → rd ms v = D_msk nd v by intro v h0 h1; rw [HY.out.2.1 v h0 h1, hi64]; rfl)
      have HE := Aside0.mk (show D_stepsFor xs l ts = (D_sfList nd 37 0 [], 0) by rw [HE0.out, if_neg]; rintro ⟨q, hq, e⟩; have := HY.out.2.2 (q : Int) (by omega) (by omega); omega)
      clear hi64
      go_wp2_with (first | ((with_reducible refine gate_dst (N := 59) rfl ?_); refine Kd.R_lit k76 _ 76 ?hg (N := 59) ?hd (xs := ([] : List S76)) (inner := []) (ok := fun _ => True) (okp := fun _ => True) ?hr ?hp (fun _ hk => hk) trivial (Below.refl _ _) (Nat.le_refl _) (by simp) ?_; (case hd => rfl); (case hg => rfl); (case hr => first | (go_simp; done) | (go_simp; rfl)); (case hp => exact (Reps.none _ _)); intro v59 w4 ho7 hb hg_ hnew_; clear hg_ hnew_; have HO4 := Aside0.mk (Kd.R_lower ho7 (below_size HB.out)); have HB4 := Aside0.mk (below_step HB.out hb); have HG5 := Aside0.mk (HG.out.below hb); clear hb ho7) | (refine arr_load rfl 101 _ rfl w3.heap.size rfl 101 .u64 ms HG5.out _ Try.underlying101 rfl 37 (by kernel_rfl) HML.out ?_))
      go_loopg [12, 61] 37 (fun kq v12 v61 w' => ∃ (o : List S76) (k : Int) (W : World), W = w' ∧ v61 = .int .i64 k ∧ Aside0 (0 ≤ k ∧ k + kq = 37) ∧ Aside0 (D_sfList nd 37 0 [] = D_sfList nd kq k o ∧ (o.length : Int) ≤ k) ∧ Aside0 (Kd.R k76 76 W w.heap.size (fun _ => True) v12 o) ∧ Aside0 (Below w.heap.size w W))
      case atStart => exact ⟨[], 0, _, rfl, rfl, ⟨by omega⟩, ⟨rfl, by simp⟩, HO4, HB4⟩
      case round =>
        clear HO4 HB4 HG5 HA HG HB
        obtain ⟨o, k, V, rfl, rfl, HJ, HF, HO, HB⟩ := hrel
        cases gk with
        | zero =>
          have hdec2 : decide (k < 37) = false := decide_eq_false (by have := HJ.out; omega)
          have HF2 := Aside0.mk (show D_sfList nd 37 0 [] = o from HF.out.1)
          go_wp2_with fail
          go_ret2
          exact ⟨_, by rw [HE.out]; rfl, by rw [HE.out, HF2.out]; exact HO.out, HB.out⟩
        | succ k1 =>
          have h0 := HJ.out.1
          have hk : k < 37 := by have := HJ.out; omega
          have hx := arr_index (k := .u64) (xs := ms) Try.underlying101 szU64 agU64 h0 (by rw [HML.out]; omega) HML.out
          have HMK := Aside0.mk (HMS.out k h0 hk)
          have HW8 := Aside0.mk (show IntKind.i8.wrap k = k from L_w8 (by omega))
          have HE9 := Aside0.mk (show wrap64 (k + 1) = k + 1 by unfold wrap64; omega)
          by_cases hz : rd ms k = 0
          · have hzz : (rd ms k != 0) = false := by simp [hz]
            have HZ := Aside0.mk hz
            clear hz
            go_wp2_with fail
            go_roundg k1
            case measure => omega
            case rel => exact ⟨o, k + 1, _, rfl, rfl, ⟨by have := HJ.out; omega⟩, ⟨by rw [HF.out.1]; simp only [D_sfList]; rw [if_pos (by rw [← HMK.out]; exact HZ.out)], by have := HF.out.2; omega⟩, HO, HB⟩
          · have hzz : (rd ms k != 0) = true := by simp [hz]
            have HZ := Aside0.mk hz
            clear hz
            have hw8 := HW8.out
            go_wp2_with (first | ((with_reducible refine gate_builtin (b := .append) (xs := #[.tmp 67, .tmp 72]) rfl ?_); at_builtin; refine Kd.R_append k76 (w0 := w) w.heap.size rfl (.tmp 67) (.tmp 72) 27 76 (.agg #[(.int .u64 0), (.int .i8 0)]) 16 rfl Try.underlying27 info76 rfl (by decide) (by omega) u12 o (⟨rd ms k, k⟩ : S76) [.int .u64 (rd ms k), .int .i8 k] (fun _ => True) (fun _ => False) rfl (by show Value.slice (some ⟨V.heap.size, 0, none⟩) 1 1 = _; simp) ?aP (fun _ hk => hk.elim) ?aF ?aO ?aB ?aS ?aL ?_; (case aP => exact k76_mkM _ _ _ (⟨rd ms k, k⟩ : S76)); (case aB => exact HB.out); (case aF => exact (fun _ _ => trivial)); (case aO => exact HO.out); (case aS => exact below_size HB.out); (case aL => have := HF.out.2; omega); intro v73 w8 ho hb hg hat; have HB8 := Aside0.mk hb; have HO8 := Aside0.mk ho; clear ho hb hg hat))
            clear hw8 hx
            go_roundg k1
            case measure => omega
            case rel => exact ⟨_, k + 1, _, rfl, rfl, ⟨by have := HJ.out; omega⟩, ⟨by rw [HF.out.1]; simp only [D_sfList]; rw [if_neg (by rw [← HMK.out]; exact HZ.out), ← HMK.out], by have := HF.out.2; simp; omega⟩, HO8, HB8⟩
    | succ k1 =>
      have h0 := HI.out.1
      have hi : i < 64 := by have := HI.out.2; omega
      have hx := arr_index (k := .i16) (xs := ts) Try.underlying39 szI16b agI16b h0 (by rw [HM.out]; omega) HM.out
      obtain ⟨t, ht⟩ : ∃ t, t = rd ts i := ⟨_, rfl⟩
      rw [← ht] at hx
      have HTT := Aside0.mk ht
      clear ht
      have HE9 := Aside0.mk (show wrap64 (i + 1) = i + 1 by unfold wrap64; omega)
      go_wp2_with fail
      clear hx
      go_loopg [11] 37 (fun kj v11 w' => ∃ (k : Int) (V : World), V = w' ∧ v11 = .int .i64 k ∧ Aside0 (0 ≤ k ∧ k + kj = 37) ∧ Aside0 (∀ j : Int, 0 ≤ j → j < k → D_cell l (rd xs i) j < t) ∧
        Aside0 (ArrAt V w.heap.size 42 .i16 xs) ∧ Aside0 (ArrAt V w3.heap.size 101 .u64 ms) ∧ Aside0 (Below w.heap.size w V))
      case atStart => exact ⟨0, _, rfl, rfl, ⟨by omega⟩, ⟨fun j a b => by omega⟩, HA, HG, HB⟩
      case round =>
        clear HA HG HB
        obtain ⟨k, V, rfl, rfl, HK, HP, HA, HG, HB⟩ := hrel
        have hk0 := HK.out.1
        have hk1 : k ≤ 37 := by have := HK.out.2; omega
        go_wp2_with fail
        refine (impl_areThirds.calls _ _ _ (L_areThirds k)).mono ?_
        rintro e w5 ⟨rfl, hb⟩
        have HA5 := Aside0.mk (HA.out.below hb.below)
        have HG5 := Aside0.mk (HG.out.below hb.below)
        have HB5 := Aside0.mk (below_step HB.out hb.below)
        clear hb HA HG HB
        by_cases hk : k ≤ 36
        · have hd : decide (0 ≤ k ∧ k ≤ 36) = true := decide_eq_true ⟨hk0, hk⟩
          have HX2 := Aside0.mk ((L_printed HQ1.out (arr_rd (P := fun x => 0 ≤ x ∧ x ≤ 400) HQ0.out h0 (by rw [HX.out]; omega)) (show -1 ≤ k ∧ k ≤ 36 by omega) (Nat.le_refl 13)).2.1 hk0)
          have c1 : w5.cell? ⟨w.heap.size, i.toNat, none⟩ = some (.int .i16 (rd xs i)) := HA5.out.cell h0 (by rw [HX.out]; omega)
          go_wp2_with fail
          refine (impl_Curve_shade.calls 13 _ _ l _ _ _ _ (Kd.C_below HR.out HB5.out) HC1.out HX2.out).mono ?_
          rintro e w6 ⟨rfl, hb⟩
          have HA6 := Aside0.mk (HA5.out.below hb)
          have HG6 := Aside0.mk (HG5.out.below hb)
          have HB6 := Aside0.mk (below_step HB5.out hb)
          clear hb HA5 HG5 HB5 c1
          by_cases hlt : D_cell l (rd xs i) k < t
          · cases gk with
            | zero => exact absurd hk (by have := HK.out; omega)
            | succ kj =>
              have HP1 := Aside0.mk (fun (j : Int) (a : 0 ≤ j) (b : j < k + 1) => if e : j < k then HP.out j a e else (show j = k by omega) ▸ hlt)
              go_wp2_with fail
              clear hlt
              go_roundg kj
              case measure => omega
              case rel => exact ⟨k + 1, _, rfl, rfl, ⟨by have := HK.out; omega⟩, HP1, HA6, HG6, HB6⟩
          · have hge : t ≤ D_cell l (rd xs i) k := by omega
            have HNK := Aside0.mk (show nd i = k from (HUQ.out i k ⟨hk0, hk1⟩ (by rw [← HTT.out]; exact HP.out) (fun _ => by rw [← HTT.out]; omega)).symm)
            go_wp2_with fail
            clear hlt hge
            refine (impl_areThirds.calls _ _ _ (L_areThirds k)).mono ?_
            rintro e w7 ⟨rfl, hb⟩
            have HA7 := Aside0.mk (HA6.out.below hb.below)
            have HG7 := Aside0.mk (HG6.out.below hb.below)
            have HB7 := Aside0.mk (below_step HB6.out hb.below)
            clear hb HA6 HG6 HB6
            have c2 : w7.cell? ⟨w3.heap.size, k.toNat, none⟩ = some (.int .u64 (rd ms k)) := HG7.out.cell hk0 (by rw [HY.out.1]; omega)
            have f2 := HG7.out.frozen k.toNat
            go_wp2_with fail
            go_region
            all_goals
              clear c2 f2
              go_wp2_with fail
              go_roundg k1
              case measure => omega
              case rel =>
                refine ⟨i + 1, ms.set k.toNat (Go.bits .or .u64 (rd ms k) (IntKind.u64.wrap (2 ^ i.toNat))), _, rfl, rfl, ⟨by have := HI.out; omega⟩, ⟨by simpa using HY.out.1, fun v h2 h3 => ?_, fun j h2 h3 => ?_⟩, ⟨ArrAt.other (W := w7) HA7.out (by have := HGT.out; omega) _ _⟩, ⟨ArrAt.set (W := w7) HG7.out k _⟩, ⟨below_drew1 (below_set HB7.out (by have := HGT.out; omega))⟩⟩
                · rw [show (i + 1).toNat = i.toNat + 1 by omega]
                  simp only [D_mskTo]
                  rw [show ((i.toNat : Nat) : Int) = i by omega, HNK.out]
                  by_cases e : k = v
                  · subst e
                    rw [if_pos rfl, ← HY.out.2.1 k h2 h3]
                    unfold rd
                    rw [List.getD_eq_getElem?_getD, List.getElem?_set_self (by rw [HY.out.1]; omega)]; rfl
                  · rw [if_neg e, rd_setNe hk0 h2 e]; exact HY.out.2.1 v h2 h3
                · by_cases e : j < i
                  · exact HY.out.2.2 j h2 e
                  · rw [show j = i by omega, HNK.out]; exact hk
        · have hd : decide (0 ≤ k ∧ k ≤ 36) = false := decide_eq_false (fun h => hk h.2)
          have HAF := Aside0.mk (show impl_areThirds.f k = some false by rw [L_areThirds, hd])
          have HNK := Aside0.mk (show nd i = 37 by rw [← HUQ.out i k ⟨hk0, hk1⟩ (by rw [← HTT.out]; exact HP.out) (fun h => absurd h hk)]; omega)
          have HE := Aside0.mk (show D_stepsFor xs l ts = ([], 6) by rw [HE0.out, if_pos]; exact ⟨i.toNat, by omega, by rw [show ((i.toNat : Nat) : Int) = i by omega]; exact HNK.out⟩)
          go_wp2_with fail
          refine (impl_areThirds.calls _ _ _ HAF.out).mono ?_
          rintro e w7 ⟨rfl, hb⟩
          have HB7 := Aside0.mk (below_step HB5.out hb.below)
          clear hb HA5 HG5 HB5
          go_wp2_with fail
          go_ret2
          exact ⟨_, by rw [HE.out]; rfl, by rw [HE.out]; exact Kd.R_nil _ _ _ _ _, HB7.out⟩
end Go.Proofs.Yticnajjbmdfidaa.Q
