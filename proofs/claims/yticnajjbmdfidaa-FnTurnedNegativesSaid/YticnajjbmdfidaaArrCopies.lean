-- Copies of a print that are drawn.
import Derived.Test.YticnajjbmdfidaaQx3
import Derived.Test.YticnajjbmdfidaaArrCells
namespace Go.Proofs.Yticnajjbmdfidaa.Q
open Go.RowKit Go.Proofs.YticnajjbmdfidaaW.PrintWords Go.Proofs.YticnajjbmdfidaaW.PrintLast Go.Proofs.YticnajjbmdfidaaW.PrintMore
attribute [local go_sem] max2_int min2_int max_two min_two max_three min_three max_four min_four
set_option linter.unusedVariables false
set_option linter.unusedSimpArgs false
/-- an array of 64 small numbers as an element -/
def kArr : Kd (List Int) where
  sz := 64
  E := []
  K _ x cs := cs = nums .i16 x ∧ x.length = 64
  M _ _ _ x cs := cs = nums .i16 x ∧ x.length = 64
  K_len := fun h => by rw [h.1]; simpa [nums] using h.2
  K_one := fun h u hu => by
    rw [h.1] at hu
    simp only [nums, List.mem_map] at hu
    obtain ⟨_, _, rfl⟩ := hu
    rfl
  K_below := fun _ h => h
  K_of_M := fun h => h
  M_mono := fun _ h => h
  M_bound := fun h => h
  M_move := fun _ h => h
  M_lower := fun _ h => h
def Cells64 (xs : List Int) : Prop := xs.length = 64 ∧ ∀ x ∈ xs, 0 ≤ x ∧ x ≤ 400
theorem R_row {W : World} {base : Nat} {ok : Nat → Prop} {v : Value} {xs : List (List Int)} {e b : Nat} (h : Kd.R kArr e W base ok v xs) (hok : ∀ k, ok k → k ≠ b) (cs : Array Value) : Kd.R kArr e (W.setRow b cs) base ok v xs :=
  Kd.R_step h (fun k ho _ => setRow_other W b k cs (hok k ho))
theorem fold_set : ∀ (cs pre zs : List Value), zs.length = cs.length → (cs.zipIdx pre.length).foldl (fun (a : Array Value) (x : Value × Nat) => a.setIfInBounds x.2 x.1) (pre ++ zs).toArray = (pre ++ cs).toArray
  | [], pre, zs, h => by
    rw [List.eq_nil_of_length_eq_zero h]
    rfl
  | c :: cs, pre, [], h => by simp at h
  | c :: cs, pre, z :: zs, h => by
    rw [List.zipIdx_cons, List.foldl_cons]
    have e : (pre ++ z :: zs).toArray.setIfInBounds pre.length c = ((pre ++ [c]) ++ zs).toArray := by
      simp
    have := fold_set cs (pre ++ [c]) zs (by simpa using h)
    rw [List.length_append] at this
    simp only [List.length_cons, List.length_nil, Nat.zero_add] at this
    dsimp only
    rw [e, this]
    simp
set_option maxHeartbeats 8000000 in
set_option maxRecDepth 100000 in
theorem spec_P6Copies.arr (A0 : Option Addr) (c0 : Nat) (l0 : List Int) (w : World) (hr0 : Kd.C (Kd.int .u8) w A0 l0.length l0) (hc0 : l0.length ≤ c0) (hs : ∀ x ∈ l0, 0 ≤ x ∧ x ≤ 255) :
    Calls Try.prog 41 #[.slice A0 l0.length c0] w fun e w' => ∃ (v : Value) (xss : List (List Int)), e = .returned v ∧ Kd.R kArr 39 w' w.heap.size (fun _ => True) v xss ∧ 1 ≤ xss.length ∧ (∀ xs ∈ xss, Cells64 xs) ∧ Below w.heap.size w w' := by
  have HR := Aside0.mk hr0
  have HC := Aside0.mk hc0
  have HS := Aside0.mk hs
  have HB := Aside0.mk (Below.refl w.heap.size w)
  clear hr0 hc0 hs
  go_enter Try.func41, Try.ntmps41
  go_wp2_with fail
  refine (spec_l00From.calls A0 c0 l0 l0 0 0 w _ HB.out HR.out HC.out rfl).mono ?_
  rintro e W1 ⟨g, rfl, hi1, hB1, hb⟩
  have HI1 := Aside0.mk hi1
  have HB1 := Aside0.mk hB1
  clear hi1 hB1 hb HB
  go_wp2_with fail
  refine (spec_l03Cells.arr g l0 0 0 w _ HI1.out HB1.out HS.out (by omega)).mono ?_
  rintro e W2 ⟨xs, a0, y0, rfl, hxl, hxa, hab, hi1, hB1, hK1⟩
  have HL := Aside0.mk hxl
  have HX := Aside0.mk hxa
  have HA0 := Aside0.mk hab
  obtain ⟨gp, hgp⟩ : ∃ gp, gp = W2.heap.size := ⟨_, rfl⟩
  have HGP := Aside0.mk hgp
  have HG := Aside0.mk (show g < gp by have := hi1.lt; omega)
  have HWG := Aside0.mk (show w.heap.size ≤ gp by have := hB1.size; omega)
  have HPN := Aside0.mk (ArrAt.newAt hgp.symm 39 .i16 (zer 64))
  have HP2 := Aside0.mk (HPN.out.row (ys := xs))
  have hb4 := (Below.refl W2.heap.size W2).alloc (Nat.le_refl _) (.cells (nums .i16 (zer 64)).toArray 39)
  have HI2 := Aside0.mk ((hi1.below hb4).row (b := gp) (by have := HG.out; omega) (nums .i16 xs).toArray)
  have HB2 := Aside0.mk (below_row (below_step hB1 hb4) (g := gp) HWG.out (nums .i16 xs).toArray)
  clear hxl hxa hab hi1 hB1 hK1 hb4 hgp HI1 HB1
  go_wp2_with (first | (rw [← HGP.out]; (refine arr_store rfl 39 _ _ rfl gp .i16 xs rfl rfl 39 (zer 64) HPN.out 64 (by kernel_rfl) (zer_len 64) HL.out ?_)) | ((with_reducible refine gate_dst (N := 14) rfl ?_); refine Kd.R_lit kArr w.heap.size 39 ?hg (N := 14) ?hd (xs := ([] : List (List Int))) (inner := []) (ok := fun k_ => k_ ≠ g ∧ k_ ≠ gp) (okp := fun _ => False) ?hr ?hp ?hh ?hf HB2.out (Below.size HB2.out) (by simp) ?_; (case hd => rfl); (case hg => rfl); (case hr => first | (go_simp; done) | (go_simp; rfl)); (case hp => exact (Reps.none _ _)); (case hh => exact fun _ h_ => h_.elim); (case hf => have h1_ := HGP.out; have h2_ := HG.out; refine ⟨?_, ?_⟩ <;> (simp; omega)); intro v14 W3 ho hb hg_ hnew_; have HO := Aside0.mk ho; have HB3 := Aside0.mk hb; have HI3 := Aside0.mk (HI2.out.grown hg_ (by simp)); have HP3 := Aside0.mk (show ArrAt W3 gp 39 .i16 xs from blk_grown HP2.out hg_ (by simp)); clear hg_ hnew_ ho hb HB2 HI2 HP2))
  obtain ⟨x, b, y1, e, hx0, hx1, hb0, hb1⟩ := DC.pick HS.out (a := a0) (by have := HA0.out; omega) y0 5
  have HE := Aside0.mk e
  have HXX := Aside0.mk (show 0 ≤ x ∧ x ≤ 4 by omega)
  have HAB := Aside0.mk (show 0 ≤ b ∧ b ≤ 200 by have := HA0.out; omega)
  have hw1 : wrap64 (1 + x) = 1 + x := by unfold wrap64; omega
  clear e hx0 hx1 hb0 hb1 HA0
  refine (spec_l00Src_pick.calls g l0 a0 y0 5 x b y1 w _ HI3.out HB3.out HE.out).mono ?_
  rintro e W4 ⟨rfl, hi1, hB1, hK1⟩
  have HI4 := Aside0.mk hi1
  have HB4 := Aside0.mk hB1
  have HP4 := Aside0.mk (HP3.out.keep hK1 (by have := HG.out; omega))
  have HO4 := Aside0.mk (Kd.R_keep HO.out hK1 (fun _ h_ => h_.1))
  clear hi1 hB1 hK1 HI3 HB3 HP3 HO HE
  go_wp2_with fail
  go_loopg [6, 5] (1 + x).toNat (fun kq v6 v5 w' => ∃ (n : Int) (xss : List (List Int)) (a y : Int) (W : World), W = w' ∧ v6 = .int .i64 n ∧ Aside0 (n = kq ∧ n ≤ 5) ∧ Aside0 (n + xss.length = 1 + x) ∧ Aside0 (∀ xs ∈ xss, Cells64 xs) ∧ Aside0 (0 ≤ a ∧ a ≤ 200 + 100 * (5 - n)) ∧ Aside0 (IsS123 w W g l0 a y) ∧
      Aside0 (ArrAt W gp 39 .i16 xs) ∧ Aside0 (Kd.R kArr 39 W w.heap.size (fun k_ => k_ ≠ g ∧ k_ ≠ gp) v5 xss) ∧ Aside0 (Below w.heap.size w W))
  case atStart => exact ⟨1 + x, [], b, y1, _, rfl, congrArg (Value.int .i64) hw1, ⟨by have := HXX.out; omega⟩, ⟨by simp⟩, ⟨by simp⟩, ⟨by have := HXX.out; have := HAB.out; omega⟩, HI4, HP4, HO4, HB4⟩
  case round =>
    clear HI4 HP4 HO4 HB4 HAB hw1
    obtain ⟨n, xss, a, y, W, rfl, rfl, HN, HNX, HCS, HAA, HI, HP, HO, HB⟩ := hrel
    cases gk with
    | zero =>
      have hdec : decide (n > 0) = false := decide_eq_false (by have := HN.out; omega)
      have hdec2 : decide (0 < n) = false := hdec
      go_wp2_with fail
      go_ret
      exact ⟨_, xss, rfl, Kd.R_mono HO.out (fun _ _ => trivial), by have := HN.out; have := HNX.out; have := HXX.out; omega, HCS.out, HB.out⟩
    | succ k1 =>
      have hdec : decide (n > 0) = true := decide_eq_true (by have := HN.out; omega)
      have hdec2 : decide (0 < n) = true := hdec
      have hwn : wrap64 (n - 1) = n - 1 := by have := HN.out; unfold wrap64; omega
      obtain ⟨gq, hgq⟩ : ∃ gq, gq = W.heap.size := ⟨_, rfl⟩
      have HGQ := Aside0.mk hgq
      have HPQ := Aside0.mk (show gp < gq by have := HP.out.lt; omega)
      have HQN := Aside0.mk (ArrAt.newAt hgq.symm 39 .i16 (zer 64))
      have HQ2 := Aside0.mk (HQN.out.row (ys := xs))
      have hb4 := (Below.refl W.heap.size W).alloc (Nat.le_refl _) (.cells (nums .i16 (zer 64)).toArray 39)
      have HI2 := Aside0.mk ((HI.out.below hb4).row (b := gq) (by have := HG.out; have := HPQ.out; omega) (nums .i16 xs).toArray)
      have HB2 := Aside0.mk (below_row (below_step HB.out hb4) (g := gq) (by have := HWG.out; have := HPQ.out; omega) (nums .i16 xs).toArray)
      have HP2 := Aside0.mk ((HP.out.below hb4).rowOther (c := gq) (by have := HPQ.out; omega) (nums .i16 xs).toArray)
      have HO2 := Aside0.mk (R_row (b := gq) (Kd.R_below (Kd.R_reok (ok := fun k_ => (k_ ≠ g ∧ k_ ≠ gp) ∧ k_ ≠ gq) rfl HO.out (fun k_ e_ => ⟨HO.out.1 k_ e_, by have := Kd.R_lt HO.out k_ e_; omega⟩)) hb4) (fun _ h_ => h_.2) (nums .i16 xs).toArray)
      obtain ⟨m, b, y1, e, hm0, hm1, hb0, hb1⟩ := DC.pick HS.out (a := a) (by have := HAA.out; have := HN.out; omega) y 6
      have HE := Aside0.mk e
      have HM := Aside0.mk (show 0 ≤ m ∧ m ≤ 5 by omega)
      have HAB := Aside0.mk (show a ≤ b ∧ b ≤ a + 2 from ⟨hb0, hb1⟩)
      clear e hm0 hm1 hb0 hb1 hb4 hgq HI
      go_wp2_with (first | (refine arr_load rfl 39 _ rfl gp rfl 39 .i16 xs HP.out _ Try.underlying39 rfl 64 (by kernel_rfl) HL.out ?_) | (rw [← HGQ.out]; (refine arr_store rfl 39 _ _ rfl gq .i16 xs rfl rfl 39 (zer 64) HQN.out 64 (by kernel_rfl) (zer_len 64) HL.out ?_)))
      refine (spec_l00Src_pick.calls g l0 a y 6 m b y1 w _ HI2.out HB2.out HE.out).mono ?_
      rintro e W4 ⟨rfl, hi1, hB1, hK1⟩
      have HI4 := Aside0.mk hi1
      have HB4 := Aside0.mk hB1
      have HP4 := Aside0.mk (HP2.out.keep hK1 (by have := HG.out; omega))
      have HQ4 := Aside0.mk (HQ2.out.keep hK1 (by have := HG.out; have := HPQ.out; omega))
      have HO4 := Aside0.mk (Kd.R_keep HO2.out hK1 (fun _ h_ => h_.1.1))
      clear hi1 hB1 hK1 HI2 HB2 HP2 HQ2 HO2 HE HP HO HB HQN
      go_wp2_with fail
      go_loopg [8] m.toNat (fun kq v8 w' => ∃ (m : Int) (ys : List Int) (a2 y : Int) (W : World), W = w' ∧ v8 = .int .i64 m ∧ Aside0 (m = kq ∧ m ≤ 5) ∧ Aside0 (ys.length = 64) ∧ Aside0 (∀ x ∈ ys, 0 ≤ x ∧ x ≤ 400) ∧ Aside0 (a ≤ a2 ∧ a2 ≤ a + 2 + 4 * (5 - m)) ∧ Aside0 (IsS123 w W g l0 a2 y) ∧
          Aside0 (ArrAt W gp 39 .i16 xs) ∧ Aside0 (ArrAt W gq 39 .i16 ys) ∧ Aside0 (Kd.R kArr 39 W w.heap.size (fun k_ => (k_ ≠ g ∧ k_ ≠ gp) ∧ k_ ≠ gq) u5 xss) ∧ Aside0 (Below w.heap.size w W))
      case atStart => exact ⟨m, xs, b, y1, _, rfl, rfl, ⟨by have := HM.out; omega⟩, HL, HX, ⟨by have := HM.out; have := HAB.out; omega⟩, HI4, HP4, HQ4, HO4, HB4⟩
      case round =>
        clear HI4 HP4 HQ4 HO4 HB4 HAB
        obtain ⟨m, ys, a2, y, W, rfl, rfl, HM, HYL, HYA, HAB, HI, HP, HQ, HO, HB⟩ := hrel
        cases gk with
        | zero =>
          have hdec : decide (m > 0) = false := decide_eq_false (by have := HM.out; omega)
          have hdec2 : decide (0 < m) = false := hdec
          have hnl : (nums .i16 ys).length = 64 := by have := HYL.out; simp [nums, this]
          have hbs : List.foldl (fun (cs : Array Value) (x : Value × Nat) => cs.setIfInBounds x.snd x.fst) #[.int .i16 0, .int .i16 0, .int .i16 0, .int .i16 0, .int .i16 0, .int .i16 0, .int .i16 0, .int .i16 0, .int .i16 0, .int .i16 0, .int .i16 0, .int .i16 0, .int .i16 0, .int .i16 0, .int .i16 0, .int .i16 0, .int .i16 0, .int .i16 0, .int .i16 0, .int .i16 0, .int .i16 0, .int .i16 0, .int .i16 0, .int .i16 0, .int .i16 0, .int .i16 0, .int .i16 0, .int .i16 0, .int .i16 0, .int .i16 0, .int .i16 0, .int .i16 0, .int .i16 0, .int .i16 0, .int .i16 0, .int .i16 0, .int .i16 0, .int .i16 0, .int .i16 0, .int .i16 0, .int .i16 0, .int .i16 0, .int .i16 0, .int .i16 0, .int .i16 0, .int .i16 0, .int .i16 0, .int .i16 0, .int .i16 0, .int .i16 0, .int .i16 0, .int .i16 0, .int .i16 0, .int .i16 0, .int .i16 0, .int .i16 0, .int .i16 0, .int .i16 0, .int .i16 0, .int .i16 0, .int .i16 0, .int .i16 0, .int .i16 0, .int .i16 0] (nums .i16 ys).zipIdx = (nums .i16 ys).toArray := fold_set (nums .i16 ys) [] _ (by have := HYL.out; simp [nums, this])
          go_wp2_with (first | (refine arr_load rfl 39 _ rfl gq rfl 39 .i16 ys HQ.out _ Try.underlying39 rfl 64 (by kernel_rfl) HYL.out ?_) | ((with_reducible refine gate_builtin (b := .append) (xs := #[.tmp 36, .tmp 38]) rfl ?_); at_builtin; refine Kd.R_append kArr (w0 := w) w.heap.size rfl (.tmp 36) (.tmp 38) 61 39 (.agg (nums .i16 (zer 64)).toArray) 128 rfl Try.underlying61 (by kernel_rfl) (by kernel_rfl) (by decide) (by omega) u5 xss ys (nums .i16 ys) (fun k_ => (k_ ≠ g ∧ k_ ≠ gp) ∧ k_ ≠ gq) (fun _ => False) rfl (by show Value.slice (some ⟨W.heap.size, 0, none⟩) 1 1 = _; simp) ?aP (fun _ hk => hk.elim) ?aF ?aO ?aB ?aS ?aL ?_; (case aP => exact ⟨rfl, HYL.out⟩); (case aB => exact HB.out); (case aF => exact fun k_ hk_ => by have h1_ := HQ.out.lt; have h2_ := HPQ.out; have h3_ := HG.out; omega); (case aO => exact HO.out); (case aS => exact below_size HB.out); (case aL => have h1_ := HNX.out; have h2_ := HXX.out; have h3_ := HN.out; omega); intro v39 w8 ho hb hg hat; have HB8 := Aside0.mk hb; have HO8 := Aside0.mk ho; have HI8 := Aside0.mk (HI.out.grown hg (fun e_ => (HO.out.1 _ e_.symm).1.1 rfl)); have HP8 := Aside0.mk (show ArrAt w8 gp 39 .i16 xs from blk_grown HP.out hg (fun e_ => (HO.out.1 _ e_.symm).1.2 rfl)); clear ho hb hg hat))
          go_roundg k1
          case measure => omega
          case rel =>
            refine ⟨n - 1, xss ++ [ys], a2, y, _, rfl, (by first | rfl | exact congrArg (Value.int .i64) hwn), ⟨by have := HN.out; omega⟩, ⟨by have := HNX.out; rw [List.length_append]; simp only [List.length_cons, List.length_nil]; omega⟩, ⟨?_⟩, ⟨by have := HAA.out; have := HAB.out; have := HM.out; omega⟩, HI8, HP8, ⟨Kd.R_mono HO8.out (fun _ h_ => h_.1)⟩, HB8⟩
            intro z hz
            rcases List.mem_append.1 hz with hz | hz
            · exact HCS.out z hz
            · rw [List.mem_singleton] at hz
              subst hz
              exact ⟨HYL.out, HYA.out⟩
        | succ k2 =>
          have hdec : decide (m > 0) = true := decide_eq_true (by have := HM.out; omega)
          have hdec2 : decide (0 < m) = true := hdec
          have hwm : wrap64 (m - 1) = m - 1 := by have := HM.out; unfold wrap64; omega
          obtain ⟨j, b, y2, e, hj0, hj1, hb0, hb1⟩ := DC.pick HS.out (a := a2) (by have := HAA.out; have := HAB.out; have := HN.out; have := HM.out; omega) y 64
          have HJ := Aside0.mk (show 0 ≤ j ∧ j < 64 by omega)
          have HE := Aside0.mk e
          have HBB := Aside0.mk (show a2 ≤ b ∧ b ≤ a2 + 2 from ⟨hb0, hb1⟩)
          obtain ⟨v, c, y3, e3, hv0, hv1, hc0, hc1⟩ := DC.pick HS.out (a := b) (by have := HAA.out; have := HAB.out; have := HN.out; have := HM.out; omega) y2 401
          have HV := Aside0.mk (show 0 ≤ v ∧ v ≤ 400 by omega)
          have HE3 := Aside0.mk e3
          have HCC := Aside0.mk (show b ≤ c ∧ c ≤ b + 2 from ⟨hc0, hc1⟩)
          clear e hj0 hj1 hb0 hb1 e3 hv0 hv1 hc0 hc1
          go_wp2_with fail
          refine (spec_l00Src_pick.calls g l0 a2 y 64 j b y2 w _ HI.out HB.out HE.out).mono ?_
          rintro e W1 ⟨rfl, hi1, hB1, hK1⟩
          have HI1 := Aside0.mk hi1
          have HB1 := Aside0.mk hB1
          have HP1 := Aside0.mk (HP.out.keep hK1 (by have := HG.out; omega))
          have HQ1 := Aside0.mk (HQ.out.keep hK1 (by have := HG.out; have := HPQ.out; omega))
          have HO1 := Aside0.mk (Kd.R_keep HO.out hK1 (fun _ h_ => h_.1.1))
          clear hi1 hB1 hK1 HI HB HP HQ HO HE
          go_wp2_with fail
          refine (spec_l00Src_pick.calls g l0 b y2 401 v c y3 w _ HI1.out HB1.out HE3.out).mono ?_
          rintro e W2 ⟨rfl, hi1, hB1, hK1⟩
          have HI2 := Aside0.mk hi1
          have HB2 := Aside0.mk hB1
          have HP2 := Aside0.mk (HP1.out.keep hK1 (by have := HG.out; omega))
          have HQ2 := Aside0.mk (HQ1.out.keep hK1 (by have := HG.out; have := HPQ.out; omega))
          have HO2 := Aside0.mk (Kd.R_keep HO1.out hK1 (fun _ h_ => h_.1.1))
          clear hi1 hB1 hK1 HI1 HB1 HP1 HQ1 HO1 HE3
          have q0 := HJ.out.1
          have q1 := HJ.out.2
          have c2 : W2.cell? ⟨gq, j.toNat, none⟩ = some (.int .i16 (rd ys j)) := HQ2.out.cell q0 (by rw [HYL.out]; omega)
          have f2 := HQ2.out.frozen j.toNat
          have hw16 := cells_w16 HV.out
          go_wp2_with fail
          go_roundg k2
          case measure => omega
          case rel =>
            refine ⟨m - 1, ys.set j.toNat v, c, y3, _, rfl, congrArg (Value.int IntKind.i64) hwm, ⟨by have := HM.out; omega⟩, ⟨by simpa using HYL.out⟩, ⟨set_all HYA.out _ HV.out⟩, ⟨by have := HAB.out; have := HBB.out; have := HCC.out; omega⟩, ⟨HI2.out.far (by have := HG.out; have := HPQ.out; show g ≠ gq; omega) _⟩,
              ⟨HP2.out.other (by have := HPQ.out; omega) _ _⟩, ⟨HQ2.out.set j v⟩, ⟨Kd.R_far HO2.out (fun _ h_ => h_.2) _⟩, ⟨below_set HB2.out (by have := HWG.out; have := HPQ.out; omega)⟩⟩
end Go.Proofs.Yticnajjbmdfidaa.Q
