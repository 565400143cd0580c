-- Written by wip/mk.py of this repository (a run of the kit's print with hand-proved leaves added); Lean checks it.
import Derived.Test.YticnajjbmdfidaaQx0
import Derived.Test.YticnajjbmdfidaaQx2
import Derived.Test.YticnajjbmdfidaaQx3
namespace Go.Proofs.Yticnajjbmdfidaa.Q
open Go.RowKit Go.Proofs.YticnajjbmdfidaaW.PrintWords Go.Proofs.YticnajjbmdfidaaW.PrintLast Go.Proofs.YticnajjbmdfidaaW.PrintMore
attribute [local go_sem] max2_int min2_int max_two min_two max_three min_three max_four min_four   -- for this text's walks alone
set_option linter.unusedVariables false
set_option linter.unusedSimpArgs false

/-! ### impl_ShorterSteps: function 19 -/
set_option maxHeartbeats 8000000 in
set_option maxRecDepth 100000 in
theorem impl_ShorterSteps.clo (g : Nat) (m t x0 x1 : Int) (W : World) (h : W.heap[g]? = some (.cells #[.int .u64 m, .int .i8 t] 76 (0, 0))) :
    Calls Try.prog 62 (#[.agg #[.int .u64 x0, .int .i8 x1]] ++ #[.pointer (some ⟨g, 0, none⟩)]) W fun e W' => e = .returned (.bool (decide (x1 = t ∧ Go.bits .and .u64 x0 m = 0))) ∧ Below W.heap.size W W' := by
  have hba := below_alloc (Below.refl W.heap.size W) (.cells #[.int .u64 x0, .int .i8 x1] 76)
  have hg := blk_below h hba
  have HB := Aside0.mk hba
  have s0 : (W.alloc (.cells #[.int .u64 x0, .int .i8 x1] 76)).cell? ⟨g, 0, none⟩ = some (.int .u64 m) := (blk_cell hg 0).trans rfl
  have s1 : (W.alloc (.cells #[.int .u64 x0, .int .i8 x1] 76)).cell? ⟨g, 1, none⟩ = some (.int .i8 t) := (blk_cell hg 1).trans rfl
  clear h hba hg
  by_cases h1 : x1 = t
  · have e1 : (x1 == t) = true := by simp [h1]
    by_cases h2 : Go.bits .and .u64 x0 m = 0
    · have e2 : (Go.bits .and .u64 x0 m == 0) = true := by simp [h2]
      have HR := Aside0.mk (show decide (x1 = t ∧ Go.bits .and .u64 x0 m = 0) = true from decide_eq_true ⟨h1, h2⟩)
      clear h1 h2
      go_enter Try.func62, Try.ntmps62
      go_wp2_with fail
      go_ret
      exact ⟨by rw [HR.out]; rfl, HB.out⟩
    · have e2 : (Go.bits .and .u64 x0 m == 0) = false := by simp [h2]
      have HR := Aside0.mk (show decide (x1 = t ∧ Go.bits .and .u64 x0 m = 0) = false from decide_eq_false (fun h => h2 h.2))
      clear h1 h2
      go_enter Try.func62, Try.ntmps62
      go_wp2_with fail
      go_ret
      exact ⟨by rw [HR.out]; rfl, HB.out⟩
  · have e1 : (x1 == t) = false := by simp [h1]
    have HR := Aside0.mk (show decide (x1 = t ∧ Go.bits .and .u64 x0 m = 0) = false from decide_eq_false (fun h => h1 h.1))
    clear h1
    go_enter Try.func62, Try.ntmps62
    go_wp2_with fail
    go_ret
    exact ⟨by rw [HR.out]; rfl, HB.out⟩
def D_shq (m t : Int) (x : S76) : Option Bool := some (decide (x.f1 = t ∧ Go.bits .and .u64 x.f0 m = 0))
def impl_ShorterSteps.l0 (l : List S76) : Nat → List S76 → Int → Option (List S76)
  | 0, _, _ => none
  | n + 1, o, i => if i < (l.length : Int) then (if (rd_T76 l i).f0 = 0 then impl_ShorterSteps.l0 l n o (wrap64 (i + 1)) else
      ((D_idx (D_shq (rd_T76 l i).f0 (rd_T76 l i).f1) o 0).bind fun j => if j < 0 then (if o.length < 8796093022208 then impl_ShorterSteps.l0 l n (o ++ [rd_T76 l i]) (wrap64 (i + 1)) else none)
        else (if j < (o.length : Int) then impl_ShorterSteps.l0 l n (o.set j.toNat ⟨Go.bits .or .u64 (rd_T76 o j).f0 (rd_T76 l i).f0, (rd_T76 o j).f1⟩) (wrap64 (i + 1)) else none))) else some o
def impl_ShorterSteps.f (l : List S76) : Option (List S76 × Int) :=
  (impl_ValidSteps.f l).bind fun t => if t = true then ((impl_ShorterSteps.l0 l (l.length + 1) [] 0).bind fun o => some (o, 0)) else some ([], 1)
set_option maxHeartbeats 8000000 in
set_option maxRecDepth 100000 in
theorem impl_ShorterSteps.calls (A0 : Option Addr) (c0 : Nat) (l : List S76) (r1 : List S76) (r2 : Int) (w : World) (hr0 : Kd.C k76 w A0 l.length l) (hc0 : l.length ≤ c0) (h : impl_ShorterSteps.f l = some (r1, r2)) :
    Calls Try.prog 19 #[.slice A0 l.length c0] w fun e w' => ∃ v0_ : Value, e = .returned (.tuple #[v0_, .int .i64 r2]) ∧ Kd.R k76 76 w' w.heap.size (fun _ => True) v0_ r1 ∧ Below w.heap.size w w' := by
  have HR := Aside0.mk hr0
  have HC := Aside0.mk hc0
  have HMX := Aside0.mk (Kd.C_max hr0)
  unfold impl_ShorterSteps.f at h
  obtain ⟨N, hN⟩ : ∃ N, N = l.length + 1 := ⟨_, rfl⟩
  rw [← hN] at h
  obtain ⟨t, ht, h⟩ := Option.bind_eq_some_iff.mp h
  have HT := Aside0.mk ht
  have H := Aside0.mk h
  clear hr0 hc0 ht h hN
  go_enter Try.func19, Try.ntmps19
  go_wp2_with fail
  refine (impl_ValidSteps.calls A0 c0 l t _ HR.out HC.out HT.out).mono ?_
  rintro e w1 ⟨rfl, hb⟩
  have HB1 := Aside0.mk hb
  clear hb
  cases t
  · have H2 : some (([] : List S76), (1 : Int)) = some (r1, r2) := H.out
    simp only [Option.some.injEq, Prod.mk.injEq] at H2
    obtain ⟨rfl, rfl⟩ := H2
    clear H
    go_wp2_with fail
    go_ret2
    exact ⟨_, rfl, Kd.R_nil _ _ _ _ _, HB1.out⟩
  obtain ⟨oo, ho, h5⟩ := Option.bind_eq_some_iff.mp H.out
  simp only [Option.some.injEq, Prod.mk.injEq] at h5
  obtain ⟨rfl, rfl⟩ := h5
  have HL0 := Aside0.mk ho
  clear H ho
  go_wp2_with (first | ((with_reducible refine gate_dst (N := 11) rfl ?_); refine Kd.R_lit k76 _ 76 ?hg (N := 11) ?hd (xs := ([] : List S76)) (inner := []) (ok := fun _ => True) (okp := fun _ => True) ?hr ?hp (fun _ hk => hk) trivial (Below.refl _ _) (Nat.le_refl _) (by simp) ?_; (case hd => rfl); (case hg => rfl); (case hr => first | (go_simp; done) | (go_simp; rfl)); (case hp => exact (Reps.none _ _)); intro v11 w4 ho7 hb hg_ hnew_; clear hg_ hnew_; have HO4 := Aside0.mk (Kd.R_lower ho7 (below_size HB1.out)); have HB4 := Aside0.mk (below_step HB1.out hb); clear hb ho7))
  go_loopg [4, 14] N (fun kq v4 v14 w' => ∃ (o : List S76) (i : Int) (W : World), W = w' ∧ v14 = .int .i64 i ∧ Aside0 (impl_ShorterSteps.l0 l kq o i = some oo) ∧ Aside0 (0 ≤ i ∧ kq ≤ N) ∧ Aside0 (Kd.R k76 76 W w.heap.size (fun _ => True) v4 o) ∧ Aside0 (Below w.heap.size w W))
  case atStart => exact ⟨[], 0, _, rfl, rfl, HL0, ⟨by omega⟩, HO4, HB4⟩
  case round =>
    clear HL0 HO4 HB4 HB1
    obtain ⟨o, i, W, rfl, rfl, HA, HI, HO, HB⟩ := hrel
    cases gk with
    | zero => exact absurd HA.out (by simp [impl_ShorterSteps.l0])
    | succ k1 =>
      have H := HA.out
      clear HA
      simp only [impl_ShorterSteps.l0] at H
      have h0 := HI.out.1
      by_cases hi : i < (l.length : Int)
      · rw [if_pos hi] at H
        obtain ⟨ad, e0, hcell0, hcell1⟩ := at_T76 (Kd.C_below HR.out HB.out) i h0 hi
        cases e0
        obtain ⟨x, hx⟩ : ∃ x, x = rd_T76 l i := ⟨_, rfl⟩
        rw [← hx] at H hcell0 hcell1
        obtain ⟨m, t⟩ := x
        simp only at H hcell0 hcell1
        have HE9 := Aside0.mk (show wrap64 (i + 1) = i + 1 by have := HMX.out; unfold wrap64; omega)
        have hba := below_alloc (Below.refl W.heap.size W) (.cells #[.int .u64 m, .int .i8 t] 76)
        have HX1 := Aside0.mk (show (W.alloc (.cells #[.int .u64 m, .int .i8 t] 76)).heap[W.heap.size]? = some (.cells #[.int .u64 m, .int .i8 t] 76 (0, 0)) from heap_alloc_new _ _)
        have HO1 := Aside0.mk (Kd.R_below HO.out hba)
        have HB1 := Aside0.mk (below_step HB.out hba)
        have HG1 := Aside0.mk (below_size HB.out)
        clear hba HO HB hx
        by_cases hz : m = 0
        · rw [if_pos hz] at H
          have H2 := Aside0.mk H
          have hzz : (m == 0) = true := by simp [hz]
          clear H hz
          go_wp2_with fail
          go_roundg k1
          case measure => have := HI.out.2; omega
          case rel => exact ⟨o, _, _, rfl, rfl, H2, ⟨by rw [HE9.out]; omega, by have := HI.out.2; omega⟩, HO1, HB1⟩
        · rw [if_neg hz] at H
          have hzz : (m == 0) = false := by simp [hz]
          obtain ⟨j, hj, H⟩ := Option.bind_eq_some_iff.mp H
          have HJ := Aside0.mk hj
          have H2 := Aside0.mk H
          clear H hz hj
          obtain ⟨Ao, co, eo⟩ := Kd.R_slice HO1.out
          subst eo
          go_wp2_with fail
          refine (impl_Step_61.gen 62 #[.pointer (some ⟨W.heap.size, 0, none⟩)] (D_shq m t) _ (fun args W => enters_ Try.func62 (by kernel_rfl) rfl args W) (fun y b W' hW hb => ?_) Ao co o j (Kd.R_reads' HO1.out).2.2 (Kd.R_reads' HO1.out).2.1 HJ.out).mono ?_
          · obtain rfl : decide (y.f1 = t ∧ Go.bits .and .u64 y.f0 m = 0) = b := Option.some.inj hb
            exact impl_ShorterSteps.clo W.heap.size m t y.f0 y.f1 W' (blk_below HX1.out hW)
          rintro e w2 ⟨rfl, hb⟩
          have HX2 := Aside0.mk (blk_below HX1.out hb)
          have HO2 := Aside0.mk (Kd.R_below HO1.out hb)
          have HB2 := Aside0.mk (below_step HB1.out hb)
          clear hb HX1 HO1 HB1 hcell0 hcell1
          have H := H2.out
          clear H2
          have s0 : w2.cell? ⟨W.heap.size, 0, none⟩ = some (.int .u64 m) := (blk_cell HX2.out 0).trans rfl
          have s1 : w2.cell? ⟨W.heap.size, 1, none⟩ = some (.int .i8 t) := (blk_cell HX2.out 1).trans rfl
          by_cases hneg : j < 0
          · rw [if_pos hneg] at H
            have hd : decide (j < 0) = true := decide_eq_true hneg
            by_cases hcap : o.length < 8796093022208
            · rw [if_pos hcap] at H
              have H3 := Aside0.mk H
              have HCAP := Aside0.mk hcap
              clear H hneg hcap
              go_wp2_with (first | ((with_reducible refine gate_builtin (b := .append) (xs := #[.tmp 26, .tmp 28]) rfl ?_); at_builtin; refine Kd.R_append k76 (w0 := w) w.heap.size rfl (.tmp 26) (.tmp 28) 27 76 (.agg #[(.int .u64 0), (.int .i8 0)]) 16 rfl Try.underlying27 info76 rfl (by decide) (by omega) (.slice Ao o.length co) o (⟨m, t⟩ : S76) [.int .u64 m, .int .i8 t] (fun _ => True) (fun _ => False) rfl (by show Value.slice (some ⟨w2.heap.size, 0, none⟩) 1 1 = _; simp) ?aP (fun _ hk => hk.elim) ?aF ?aO ?aB ?aS ?aL ?_; (case aP => exact k76_mkM _ _ _ (⟨m, t⟩ : S76)); (case aB => exact HB2.out); (case aF => exact (fun _ _ => trivial)); (case aO => exact HO2.out); (case aS => exact below_size HB2.out); (case aL => have := HCAP.out; omega); intro v29 w8 ho hb hg hat; have HB8 := Aside0.mk hb; have HO8 := Aside0.mk ho; clear ho hb hg hat))
              go_roundg k1
              case measure => have := HI.out.2; omega
              case rel => exact ⟨_, _, _, rfl, rfl, H3, ⟨by rw [HE9.out]; omega, by have := HI.out.2; omega⟩, HO8, HB8⟩
            · rw [if_neg hcap] at H
              exact absurd H (by simp)
          · rw [if_neg hneg] at H
            have hd : decide (j < 0) = false := decide_eq_false hneg
            by_cases hjl : j < (o.length : Int)
            · rw [if_pos hjl] at H
              have H3 := Aside0.mk H
              have j0 : 0 ≤ j := by omega
              clear H hneg
              obtain ⟨go5, co5, eo5, gb5, gl5, cl5, HG5⟩ := Kd.R_form HO2.out (by omega)
              (first | cases eo5 | (injection eo5 with ea_ en_ ec_; (first | subst ea_ | (injection ea_ with ea_; subst ea_)); subst ec_; clear en_))
              have GB5 := Aside0.mk gb5
              clear gb5 gl5 HG5
              obtain ⟨ce8, hcl8, hM8, hcc8, hfr8⟩ := Kd.R_elem HO2.out z76 j j0 hjl
              obtain rfl := k76_openM hM8
              have hx0 : w2.cell? ⟨go5, j.toNat * 2, none⟩ = some (.int .u64 (rd_T76 o j).f0) := hcc8 0 _ rfl
              have hf0 : w2.frozen? ⟨go5, j.toNat * 2, none⟩ = false := hfr8 0
              have HP8 := Kd.R_seg HO2.out j j0 hjl (seg := [.int .u64 (Go.bits .or .u64 (rd_T76 o j).f0 m)]) (j := 0) hcl8 hcc8 (show 1 ≤ 2 from by decide) (x' := (⟨Go.bits .or .u64 (rd_T76 o j).f0 m, (rd_T76 o j).f1⟩ : S76)) (k76_mkM _ _ _ (⟨Go.bits .or .u64 (rd_T76 o j).f0 m, (rd_T76 o j).f1⟩ : S76)) (fun _ hk => hk)
              clear hcl8 hcc8 hfr8 hM8 s1
              have HPP := Aside0.mk HP8
              clear HP8
              go_wp2_with fail
              go_region
              all_goals
                go_wp2_with fail
                go_roundg k1
                case measure => have := HI.out.2; omega
                case rel => exact ⟨_, _, _, rfl, rfl, H3, ⟨by rw [HE9.out]; omega, by have := HI.out.2; omega⟩, ⟨by apply Kd.R_drew; exact HPP.out.1⟩, ⟨below_drew1 (below_set HB2.out GB5.out)⟩⟩
            · rw [if_neg hjl] at H
              exact absurd H (by simp)
      · rw [if_neg hi] at H
        obtain rfl := Option.some.inj H
        have hd : decide (i < (l.length : Int)) = false := decide_eq_false hi
        clear hi H
        go_wp2_with fail
        go_ret2
        exact ⟨_, rfl, HO.out, HB.out⟩


/-! ### spec_l02Density: function 111 -/
def spec_l02Density.f (a0 : Int) : Option (Bool) := (spec_l00In.f a0 0 400).bind fun t124 => (some t124)
set_option maxHeartbeats 8000000 in
set_option maxRecDepth 100000 in
theorem spec_l02Density.calls (a0 : Int) (r : Bool) (w : World) (h : spec_l02Density.f a0 = some r) :
    Calls Try.prog 111 #[.int .i64 a0] w fun e w' => e = .returned (.bool r) ∧ Drawn0 w w' := by
  have H : ((spec_l00In.f a0 0 400).bind fun t124 => (some t124)) = some r := h
  clear h
  replace H := Option.bind_eq_some_iff.mp H
  obtain ⟨t124, A20, H⟩ := H
  replace H : (some t124) = some r := H
  have A2 := Aside0.mk A20
  clear A20
  obtain rfl := Option.some.inj H
  go_enter Try.func111, Try.ntmps111
  go_wp2_with (first | ((with_reducible refine gate_callee (f := 110) rfl ?_); refine goesL_ (some 4) rfl rfl Try.func110 (by kernel_rfl) rfl #[.int .i64 a0, .int .i64 0, .int .i64 400] rfl (by (try simp only [List.map_toArray, List.map_cons, List.map_nil]); first | done | rfl | (simp only [List.length_drop, List.length_take]; rfl)) ?_; (with_reducible refine (spec_l00In.calls a0 0 400 t124 _ A2.out).mono ?_); rintro e w' ⟨rfl, ⟨nd, rfl⟩⟩; refine ⟨_, rfl, ?_⟩))
  go_ret
  exact ⟨by first | rfl | (simp; done) | (simp [*]; done), by repeat (first | exact Drawn0.refl _ | apply Drawn0.step)⟩

-- NOT PRINTED: function 100 (spec_l03Dense)

-- NOT PRINTED: function 63 (spec_l03Negative)

/-! ### spec_l02Place: function 116 -/
def spec_l02Place.f (a0 : Int) : Option (Bool) := (spec_l00In.f a0 (-200) 200).bind fun t125 => (some t125)
set_option maxHeartbeats 8000000 in
set_option maxRecDepth 100000 in
theorem spec_l02Place.calls (a0 : Int) (r : Bool) (w : World) (h : spec_l02Place.f a0 = some r) :
    Calls Try.prog 116 #[.int .i64 a0] w fun e w' => e = .returned (.bool r) ∧ Drawn0 w w' := by
  have H : ((spec_l00In.f a0 (-200) 200).bind fun t125 => (some t125)) = some r := h
  clear h
  replace H := Option.bind_eq_some_iff.mp H
  obtain ⟨t125, A20, H⟩ := H
  replace H : (some t125) = some r := H
  have A2 := Aside0.mk A20
  clear A20
  obtain rfl := Option.some.inj H
  go_enter Try.func116, Try.ntmps116
  go_wp2_with (first | ((with_reducible refine gate_callee (f := 110) rfl ?_); refine goesL_ (some 4) rfl rfl Try.func110 (by kernel_rfl) rfl #[.int .i64 a0, .int .i64 (-200), .int .i64 200] rfl (by (try simp only [List.map_toArray, List.map_cons, List.map_nil]); first | done | rfl | (simp only [List.length_drop, List.length_take]; rfl)) ?_; (with_reducible refine (spec_l00In.calls a0 (-200) 200 t125 _ A2.out).mono ?_); rintro e w' ⟨rfl, ⟨nd, rfl⟩⟩; refine ⟨_, rfl, ?_⟩))
  go_ret
  exact ⟨by first | rfl | (simp; done) | (simp [*]; done), by repeat (first | exact Drawn0.refl _ | apply Drawn0.step)⟩

/-! ### spec_l02Point: function 112 -/
def spec_l02Point.f (a0_0 : Int) (a0_1 : Int) : Option (Bool) := (spec_l02Place.f (wrap64 (a0_0))).bind fun t127 => (if t127 = true then ((spec_l02Density.f (wrap64 (a0_1))).bind fun t128 => (some t128)) else (some false))
set_option maxHeartbeats 8000000 in
set_option maxRecDepth 100000 in
theorem spec_l02Point.calls (a0_0 : Int) (a0_1 : Int) (r : Bool) (w : World) (h : spec_l02Point.f a0_0 a0_1 = some r) :
    Calls Try.prog 112 #[.agg #[.int .i16 a0_0, .int .i16 a0_1]] w fun e w' => e = .returned (.bool r) ∧ Below w.heap.size w w' := by
  have hu91 := Try.underlying91
  have HB := Aside0.mk (Below.refl w.heap.size w)
  have H : ((spec_l02Place.f (wrap64 (a0_0))).bind fun t127 => (if t127 = true then ((spec_l02Density.f (wrap64 (a0_1))).bind fun t128 => (some t128)) else (some false))) = some r := h
  clear h
  replace H := Option.bind_eq_some_iff.mp H
  obtain ⟨t127, A20, H⟩ := H
  replace H : (if t127 = true then ((spec_l02Density.f (wrap64 (a0_1))).bind fun t128 => (some t128)) else (some false)) = some r := H
  have A2 := Aside0.mk A20
  clear A20
  by_cases c3 : t127 = true
  · subst c3
    have H1 : ((spec_l02Density.f (wrap64 (a0_1))).bind fun t128 => (some t128)) = some r := by rw [if_pos rfl] at H; exact H
    clear H
    have H := H1
    clear H1
    replace H := Option.bind_eq_some_iff.mp H
    obtain ⟨t128, A40, H⟩ := H
    replace H : (some t128) = some r := H
    have A4 := Aside0.mk A40
    clear A40
    obtain rfl := Option.some.inj H
    go_enter Try.func112, Try.ntmps112
    go_wp2_with (first | ((with_reducible refine gate_dst (N := 1) rfl ?_); refine box_event ?hg (N := 1) ?hd (cs := #[.int .i16 a0_0, .int .i16 a0_1]) (t := 91) ?hr ?_; (case hd => rfl); (case hg => rfl); (case hr => first | (go_simp; done) | (go_simp; rfl)); intro gb126 hg w5 hbox hb; have n0_ := Aside0.mk (below_step HB.out hb); have n1_ := Aside0.mk (hbox); have n2_ := Aside0.mk ((by rw [hg]; exact (below_size HB.out) : w.heap.size ≤ gb126)); have n3_ := Aside0.mk ((by rw [hg]; exact (below_size HB.out) : w.heap.size ≤ gb126)); clear HB; have HB := n0_; have BK126 := n1_; have GW126 := n2_; have GE126 := n3_; clear n0_ n1_ n2_ n3_; clear hb hbox hg; have hcz6_0 := blk_c BK126.out 0 rfl; have hcz6_1 := blk_c BK126.out 1 rfl; have hfz6_0 := blk_frozen BK126.out 0; have hfz6_1 := blk_frozen BK126.out 1) | ((with_reducible refine gate_callee (f := 116) rfl ?_); refine goesL_ (some 6) rfl rfl Try.func116 (by kernel_rfl) rfl #[.int .i64 (wrap64 (a0_0))] rfl (by (try simp only [List.map_toArray, List.map_cons, List.map_nil]); first | done | rfl | (simp only [List.length_drop, List.length_take]; rfl)) ?_; (with_reducible refine (spec_l02Place.calls (wrap64 (a0_0)) true _ A2.out).mono ?_); rintro e w' ⟨rfl, ⟨nd, rfl⟩⟩; refine ⟨_, rfl, ?_⟩) | (go_at_call 111; (with_reducible refine (spec_l02Density.calls (wrap64 (a0_1)) t128 _ A4.out).mono ?_); rintro e w' ⟨rfl, ⟨nd, rfl⟩⟩))
    go_ret
    exact ⟨by first | rfl | (simp [errW_none, errW_some] <;> rfl) | (simp [*, errW_none, errW_some] <;> rfl), by repeat (first | (with_reducible first | exact HB.out | apply below_alloc | apply pw_below_drewN | apply below_drew1 | refine below_set ?_ GE126.out) | exact HB.out)⟩
  · replace c3 := Bool.eq_false_iff.mpr c3
    subst c3
    have H1 : (some false) = some r := by rw [if_neg (show ¬ (false = true) by decide)] at H; exact H
    clear H
    have H := H1
    clear H1
    obtain rfl := Option.some.inj H
    go_enter Try.func112, Try.ntmps112
    go_wp2_with (first | ((with_reducible refine gate_dst (N := 1) rfl ?_); refine box_event ?hg (N := 1) ?hd (cs := #[.int .i16 a0_0, .int .i16 a0_1]) (t := 91) ?hr ?_; (case hd => rfl); (case hg => rfl); (case hr => first | (go_simp; done) | (go_simp; rfl)); intro gb126 hg w7 hbox hb; have n0_ := Aside0.mk (below_step HB.out hb); have n1_ := Aside0.mk (hbox); have n2_ := Aside0.mk ((by rw [hg]; exact (below_size HB.out) : w.heap.size ≤ gb126)); have n3_ := Aside0.mk ((by rw [hg]; exact (below_size HB.out) : w.heap.size ≤ gb126)); clear HB; have HB := n0_; have BK126 := n1_; have GW126 := n2_; have GE126 := n3_; clear n0_ n1_ n2_ n3_; clear hb hbox hg; have hcz8_0 := blk_c BK126.out 0 rfl; have hcz8_1 := blk_c BK126.out 1 rfl; have hfz8_0 := blk_frozen BK126.out 0; have hfz8_1 := blk_frozen BK126.out 1) | ((with_reducible refine gate_callee (f := 116) rfl ?_); refine goesL_ (some 6) rfl rfl Try.func116 (by kernel_rfl) rfl #[.int .i64 (wrap64 (a0_0))] rfl (by (try simp only [List.map_toArray, List.map_cons, List.map_nil]); first | done | rfl | (simp only [List.length_drop, List.length_take]; rfl)) ?_; (with_reducible refine (spec_l02Place.calls (wrap64 (a0_0)) false _ A2.out).mono ?_); rintro e w' ⟨rfl, ⟨nd, rfl⟩⟩; refine ⟨_, rfl, ?_⟩))
    go_ret
    exact ⟨by first | rfl | (simp [errW_none, errW_some] <;> rfl) | (simp [*, errW_none, errW_some] <;> rfl), by repeat (first | (with_reducible first | exact HB.out | apply below_alloc | apply pw_below_drewN | apply below_drew1 | refine below_set ?_ GE126.out) | exact HB.out)⟩

end Go.Proofs.Yticnajjbmdfidaa.Q
