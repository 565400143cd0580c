-- Written by wip/mk.py of this repository (a run of the kit's print with hand-proved leaves added); Lean checks it.
import Derived.Test.YtldhgldknefjdaaQx0
import Derived.Test.YtldhgldknefjdaaQx2
import Derived.Test.YtldhgldknefjdaaQx5
import Derived.Test.YtldhgldknefjdaaQx8
import Derived.Test.YtldhgldknefjdaaQx11
import Derived.Test.YtldhgldknefjdaaQx12
namespace Go.Proofs.Ytldhgldknefjdaa.Q
open Go.RowKit Go.Proofs.YtldhgldknefjdaaW.PrintWords Go.Proofs.YtldhgldknefjdaaW.PrintLast Go.Proofs.YtldhgldknefjdaaW.PrintMore
attribute [local go_sem] max2_int min2_int max_two min_two max_three min_three max_four min_four   -- for this text's walks alone
set_option linter.unusedVariables false
set_option linter.unusedSimpArgs false

/-! ### spec_BandsOf: function 8 -/
def spec_BandsOf.f (k : Nat) (a0_0 : Int) (a0_1 : Int) (a0_2 : Int) (l1 : List (S66)) (a2 : Int) : Option (List Int × Int) := (spec_l05Bands.f k a0_0 a0_1 a0_2 l1 a2 false).bind fun bt170 => (some (bt170.1, bt170.2))
theorem spec_BandsOf.mono : ∀ a0 a1 a2 a3 a4 k, LeO (spec_BandsOf.f k a0 a1 a2 a3 a4) (spec_BandsOf.f (k + 1) a0 a1 a2 a3 a4) := by
  intro a0 a1 a2 a3 a4 k
  unfold spec_BandsOf.f
  repeat' first
      | (with_reducible exact spec_l05Bands.mono _ _ _ _ _ _ _)
      | (with_reducible exact LeO.refl _)
      | (with_reducible exact LeO.none _)
      | (with_reducible refine LeO.ite ?_ ?_)
      | (with_reducible refine LeO.bind ?_ (fun _ => ?_))
      | exact spec_l05Bands.mono _ _ _ _ _ _ _
      | exact LeO.none _
      | refine LeO.ite ?_ ?_
      | refine LeO.bind ?_ (fun _ => ?_)
set_option maxHeartbeats 8000000 in
set_option maxRecDepth 100000 in
theorem spec_BandsOf.calls (k : Nat) (a0_0 : Int) (a0_1 : Int) (a0_2 : Int) (A1 : Option Addr) (c1 : Nat) (l1 : List (S66)) (a2 : Int) (r1 : List Int) (r2 : Int) (w : World) (hr1 : Kd.C k66 w A1 l1.length l1) (hc1 : l1.length ≤ c1) (h : spec_BandsOf.f k a0_0 a0_1 a0_2 l1 a2 = some (r1, r2)) :
    Calls Try.prog 8 #[.agg #[.int .i8 a0_0, .int .i8 a0_1, .int .i8 a0_2], .slice A1 l1.length c1, .int .i64 a2] w fun e w' => ∃ v0_ : Value, e = .returned (.tuple #[v0_, .int .i64 r2]) ∧ Kd.R (Kd.int .i64) 2 w' w.heap.size (fun _ => True) v0_ r1 ∧ Below w.heap.size w w' := by
  have hu30 := Try.underlying30
  have HR1 := Aside0.mk hr1
  have HC1 := Aside0.mk hc1
  clear hr1 hc1
  have HB := Aside0.mk (Below.refl w.heap.size w)
  have H : ((spec_l05Bands.f k a0_0 a0_1 a0_2 l1 a2 false).bind fun bt170 => (some (bt170.1, bt170.2))) = some (r1, r2) := h
  clear h
  replace H := Option.bind_eq_some_iff.mp H
  obtain ⟨⟨t170, t173⟩, A40, H⟩ := H
  replace H : (some (t170, t173)) = some (r1, r2) := H
  have A4 := Aside0.mk A40
  clear A40
  simp only [Option.some.injEq, Prod.mk.injEq] at H
  obtain ⟨rfl, rfl⟩ := H
  go_enter Try.func8, Try.ntmps8
  go_wp2_with (first | ((with_reducible refine gate_dst (N := 3) rfl ?_); refine box_event ?hg (N := 3) ?hd (cs := #[.int .i8 a0_0, .int .i8 a0_1, .int .i8 a0_2]) (t := 30) ?hr ?_; (case hd => rfl); (case hg => rfl); (case hr => first | (go_simp; done) | (go_simp; rfl)); intro gb169 hg w5 hbox hb; have n0_ := Aside0.mk (below_step HB.out hb); have n1_ := Aside0.mk (hbox); have n2_ := Aside0.mk ((by rw [hg]; exact (below_size HB.out) : w.heap.size ≤ gb169)); have n3_ := Aside0.mk ((by rw [hg]; exact (below_size HB.out) : w.heap.size ≤ gb169)); clear HB; have HB := n0_; have BK169 := n1_; have GW169 := n2_; have GE169 := n3_; clear n0_ n1_ n2_ n3_; clear hb hbox hg; have hcz6_0 := blk_c BK169.out 0 rfl; have hcz6_1 := blk_c BK169.out 1 rfl; have hcz6_2 := blk_c BK169.out 2 rfl; have hfz6_0 := blk_frozen BK169.out 0; have hfz6_1 := blk_frozen BK169.out 1; have hfz6_2 := blk_frozen BK169.out 2) | ((with_reducible refine gate_callee (f := 47) rfl ?_); refine goesL_ (some 11) rfl rfl Try.func47 (by kernel_rfl) rfl #[.agg #[.int .i8 a0_0, .int .i8 a0_1, .int .i8 a0_2], .slice A1 l1.length c1, .int .i64 a2, .bool false] rfl (by (try simp only [List.map_toArray, List.map_cons, List.map_nil]); first | done | rfl | (simp only [List.length_drop, List.length_take]; rfl)) ?_; (with_reducible refine (spec_l05Bands.calls k a0_0 a0_1 a0_2 _ _ l1 a2 false t170 t173 _ ?side1 ?side2 A4.out).mono ?_); (case side1 => repeat (first | exact (Kd.C_below HR1.out HB.out) | (with_reducible refine Kd.C_alloc ?_ _) | (with_reducible refine Kd.C_drewN ?_ _) | (with_reducible refine Kd.C_drew ?_))); (case side2 => exact HC1.out); rintro e w7 ⟨v171, rfl, ho0, hb⟩; refine ⟨_, rfl, ?_⟩; have n0_ := Aside0.mk (Kd.R_lower ho0 (below_size HB.out)); have n1_ := Aside0.mk (blk_below BK169.out hb); have n2_ := Aside0.mk (below_step HB.out hb); clear BK169; clear HB; have HO172 := n0_; have BK169 := n1_; have HB := n2_; clear n0_ n1_ n2_; (try clear hb); (try clear hb2); (try clear hk); (try clear hi); (try clear ho0)))
  go_ret2
  exact ⟨_, by first | rfl | (simp [errW_none, errW_some] <;> rfl) | (simp [*, errW_none, errW_some] <;> rfl), by (with_reducible repeat (first | apply Kd.R_alloc | apply Kd.R_drewN | apply Kd.R_drew)); exact HO172.out, by repeat (first | (with_reducible first | exact HB.out | apply below_alloc | apply pw_below_drewN | apply below_drew1 | refine below_set ?_ GE169.out) | exact HB.out)⟩

/-! ### impl_BandsOf: function 11 -/
def impl_BandsOf.f (a b c : Int) (l : List S66) (d : Int) : Option (List Int × Int) := impl_bands.fl (l.length + 100) (impl_Strip_lights.f (l.length + 100) a b c) a b c l d
set_option maxHeartbeats 8000000 in
set_option maxRecDepth 100000 in
theorem impl_BandsOf.calls (a b c : Int) (A1 : Option Addr) (c1 : Nat) (l : List S66) (d : Int) (r1 : List Int) (r2 : Int) (w : World) (hr1 : Kd.C k66 w A1 l.length l) (hc1 : l.length ≤ c1) (h : impl_BandsOf.f a b c l d = some (r1, r2)) :
    Calls Try.prog 11 #[.agg #[.int .i8 a, .int .i8 b, .int .i8 c], .slice A1 l.length c1, .int .i64 d] w fun e w' => ∃ v0_ : Value, e = .returned (.tuple #[v0_, .int .i64 r2]) ∧ Kd.R (Kd.int .i64) 2 w' w.heap.size (fun _ => True) v0_ r1 ∧ Below w.heap.size w w' := by
  have HR := Aside0.mk hr1
  have HC := Aside0.mk hc1
  have HB0 := Aside0.mk (show Below w.heap.size w (w.alloc (.cells #[.int .i8 a, .int .i8 b, .int .i8 c] 30)) from (Below.refl _ _).alloc (Nat.le_refl _) _)
  have H := Aside0.mk h
  clear hr1 hc1 h
  go_enter Try.func11, Try.ntmps11
  go_wp2_with fail
  refine (impl_bands.gen 50 (l.length + 100) _ a b c (fun args W => enters_ Try.func50 (by kernel_rfl) rfl args W) (fun L W hL => impl_Strip_lights.calls (l.length + 100) a b c L W hL) A1 c1 l d r1 r2 _ (Kd.C_below HR.out HB0.out) HC.out H.out).mono ?_
  rintro e w1 ⟨v1, rfl, ho, hb⟩
  have HO1 := Aside0.mk (Kd.R_lower ho (below_size HB0.out))
  have HB1 := Aside0.mk (below_step HB0.out hb)
  clear ho hb HB0
  go_wp2_with fail
  go_ret2
  exact ⟨_, rfl, HO1.out, HB1.out⟩


/-! ### laws_FnExactBandsOf: function 3 -/
mutual
def laws_FnExactBandsOf.j0 : Nat → List (S68) → Int → List Int → Int → List (S66) → List Int → Int → Bool → Int → Int → Int → Option (Bool)
  | 0, _, _, _, _, _, _, _, _, _, _, _ => none
  | k + 1, x1, x2, x8, x9, x10, x11, x12, x50, x235000, x235001, x235002 => if x50 = true then (some false) else ((laws_toCurve.f k x1).bind fun t257 => ((laws_eqCurve.f k x10 t257).bind fun t260 => (if t260 = true then ((laws_markCurve.f k x10 1).bind fun bt261 => (if bt261.1 < 0 then (laws_FnExactBandsOf.j1 k x1 x2 x8 x9 x11 true x235000 x235001 x235002) else ((laws_eqInt64S.f k x11 x8).bind fun t263 => (if t263 = true then (laws_FnExactBandsOf.j1 k x1 x2 x8 x9 x11 (x12 != x9) x235000 x235001 x235002) else (laws_FnExactBandsOf.j1 k x1 x2 x8 x9 x11 true x235000 x235001 x235002))))) else (some false))))
def laws_FnExactBandsOf.j1 : Nat → List (S68) → Int → List Int → Int → List Int → Bool → Int → Int → Int → Option (Bool)
  | 0, _, _, _, _, _, _, _, _, _ => none
  | k + 1, x1, x2, x8, x9, x11, x71, x235000, x235001, x235002 => if x71 = true then (some false) else ((laws_markInt64S.f k x11 1).bind fun bt264 => ((laws_heldInt64S.f k bt264.2 1).bind fun t266 => (if t266 < 0 then (some false) else (if t266 = bt264.1 then ((laws_toStrip.f x235000 x235001 x235002).bind fun bt267 => ((laws_toCurve.f k x1).bind fun t270 => ((impl_BandsOf.f bt267.1 bt267.2.1 bt267.2.2 t270 x2).bind fun bt273 => ((laws_eqInt64S.f k bt273.1 x8).bind fun t277 => (if t277 = true then (laws_FnExactBandsOf.j2 k bt264.2 bt264.1 (bt273.2 != x9)) else (laws_FnExactBandsOf.j2 k bt264.2 bt264.1 true)))))) else (some false)))))
def laws_FnExactBandsOf.j2 : Nat → List Int → Int → Bool → Option (Bool)
  | 0, _, _, _ => none
  | k + 1, x11, x14, x100 => if x100 = true then (some false) else ((laws_heldInt64S.f k x11 1).bind fun t278 => (if t278 < 0 then (some false) else (if t278 = x14 then (some true) else (some false))))
end
def laws_FnExactBandsOf.f (k : Nat) (a0_0 : Int) (a0_1 : Int) (a0_2 : Int) (l1 : List (S68)) (a2 : Int) : Option (Bool) := (laws_szCurve.f l1 1048576).bind fun t235 => (if t235 < 0 then (some true) else ((laws_toStrip.f a0_0 a0_1 a0_2).bind fun bt236 => ((laws_toCurve.f k l1).bind fun t239 => ((spec_BandsOf.f k bt236.1 bt236.2.1 bt236.2.2 t239 a2).bind fun bt242 => ((laws_toCurve.f k l1).bind fun t246 => ((laws_toStrip.f a0_0 a0_1 a0_2).bind fun bt249 => ((impl_BandsOf.f bt249.1 bt249.2.1 bt249.2.2 t246 a2).bind fun bt252 => ((laws_eqInt64S.f k bt252.1 bt242.1).bind fun t256 => (if t256 = true then (laws_FnExactBandsOf.j0 k l1 a2 bt242.1 bt242.2 t246 bt252.1 bt252.2 (bt252.2 != bt242.2) a0_0 a0_1 a0_2) else (laws_FnExactBandsOf.j0 k l1 a2 bt242.1 bt242.2 t246 bt252.1 bt252.2 true a0_0 a0_1 a0_2))))))))))
theorem laws_FnExactBandsOf.mono_l : ∀ k, (∀ y0 y1 y2 y3 y4 y5 y6 y7 y8 y9 y10, LeO (laws_FnExactBandsOf.j0 k y0 y1 y2 y3 y4 y5 y6 y7 y8 y9 y10) (laws_FnExactBandsOf.j0 (k + 1) y0 y1 y2 y3 y4 y5 y6 y7 y8 y9 y10)) ∧ (∀ y0 y1 y2 y3 y4 y5 y6 y7 y8, LeO (laws_FnExactBandsOf.j1 k y0 y1 y2 y3 y4 y5 y6 y7 y8) (laws_FnExactBandsOf.j1 (k + 1) y0 y1 y2 y3 y4 y5 y6 y7 y8)) ∧ (∀ y0 y1 y2, LeO (laws_FnExactBandsOf.j2 k y0 y1 y2) (laws_FnExactBandsOf.j2 (k + 1) y0 y1 y2))
  | 0 => ⟨fun _ _ _ _ _ _ _ _ _ _ _ r h => by simp [laws_FnExactBandsOf.j0] at h, fun _ _ _ _ _ _ _ _ _ r h => by simp [laws_FnExactBandsOf.j1] at h, fun _ _ _ r h => by simp [laws_FnExactBandsOf.j2] at h⟩
  | k + 1 => by
    obtain ⟨ih0, ih1, ih2⟩ := laws_FnExactBandsOf.mono_l k
    refine ⟨?_, ?_, ?_⟩
    · intro y0 y1 y2 y3 y4 y5 y6 y7 y8 y9 y10
      unfold laws_FnExactBandsOf.j0
      repeat' first
      | (with_reducible exact ih0 _ _ _ _ _ _ _ _ _ _ _)
      | (with_reducible exact ih1 _ _ _ _ _ _ _ _ _)
      | (with_reducible exact ih2 _ _ _)
      | (with_reducible exact laws_eqCurve.mono _ _ _)
      | (with_reducible exact laws_eqInt64S.mono _ _ _)
      | (with_reducible exact laws_heldInt64S.mono _ _ _)
      | (with_reducible exact laws_markCurve.mono _ _ _)
      | (with_reducible exact laws_markInt64S.mono _ _ _)
      | (with_reducible exact laws_toCurve.mono _ _)
      | (with_reducible exact spec_BandsOf.mono _ _ _ _ _ _)
      | (with_reducible exact LeO.refl _)
      | (with_reducible exact LeO.none _)
      | (with_reducible refine LeO.ite ?_ ?_)
      | (with_reducible refine LeO.bind ?_ (fun _ => ?_))
      | exact ih0 _ _ _ _ _ _ _ _ _ _ _
      | exact ih1 _ _ _ _ _ _ _ _ _
      | exact ih2 _ _ _
      | exact laws_eqCurve.mono _ _ _
      | exact laws_eqInt64S.mono _ _ _
      | exact laws_heldInt64S.mono _ _ _
      | exact laws_markCurve.mono _ _ _
      | exact laws_markInt64S.mono _ _ _
      | exact laws_toCurve.mono _ _
      | exact spec_BandsOf.mono _ _ _ _ _ _
      | exact LeO.none _
      | refine LeO.ite ?_ ?_
      | refine LeO.bind ?_ (fun _ => ?_)
    · intro y0 y1 y2 y3 y4 y5 y6 y7 y8
      unfold laws_FnExactBandsOf.j1
      repeat' first
      | (with_reducible exact ih0 _ _ _ _ _ _ _ _ _ _ _)
      | (with_reducible exact ih1 _ _ _ _ _ _ _ _ _)
      | (with_reducible exact ih2 _ _ _)
      | (with_reducible exact laws_eqCurve.mono _ _ _)
      | (with_reducible exact laws_eqInt64S.mono _ _ _)
      | (with_reducible exact laws_heldInt64S.mono _ _ _)
      | (with_reducible exact laws_markCurve.mono _ _ _)
      | (with_reducible exact laws_markInt64S.mono _ _ _)
      | (with_reducible exact laws_toCurve.mono _ _)
      | (with_reducible exact spec_BandsOf.mono _ _ _ _ _ _)
      | (with_reducible exact LeO.refl _)
      | (with_reducible exact LeO.none _)
      | (with_reducible refine LeO.ite ?_ ?_)
      | (with_reducible refine LeO.bind ?_ (fun _ => ?_))
      | exact ih0 _ _ _ _ _ _ _ _ _ _ _
      | exact ih1 _ _ _ _ _ _ _ _ _
      | exact ih2 _ _ _
      | exact laws_eqCurve.mono _ _ _
      | exact laws_eqInt64S.mono _ _ _
      | exact laws_heldInt64S.mono _ _ _
      | exact laws_markCurve.mono _ _ _
      | exact laws_markInt64S.mono _ _ _
      | exact laws_toCurve.mono _ _
      | exact spec_BandsOf.mono _ _ _ _ _ _
      | exact LeO.none _
      | refine LeO.ite ?_ ?_
      | refine LeO.bind ?_ (fun _ => ?_)
    · intro y0 y1 y2
      unfold laws_FnExactBandsOf.j2
      repeat' first
      | (with_reducible exact ih0 _ _ _ _ _ _ _ _ _ _ _)
      | (with_reducible exact ih1 _ _ _ _ _ _ _ _ _)
      | (with_reducible exact ih2 _ _ _)
      | (with_reducible exact laws_eqCurve.mono _ _ _)
      | (with_reducible exact laws_eqInt64S.mono _ _ _)
      | (with_reducible exact laws_heldInt64S.mono _ _ _)
      | (with_reducible exact laws_markCurve.mono _ _ _)
      | (with_reducible exact laws_markInt64S.mono _ _ _)
      | (with_reducible exact laws_toCurve.mono _ _)
      | (with_reducible exact spec_BandsOf.mono _ _ _ _ _ _)
      | (with_reducible exact LeO.refl _)
      | (with_reducible exact LeO.none _)
      | (with_reducible refine LeO.ite ?_ ?_)
      | (with_reducible refine LeO.bind ?_ (fun _ => ?_))
      | exact ih0 _ _ _ _ _ _ _ _ _ _ _
      | exact ih1 _ _ _ _ _ _ _ _ _
      | exact ih2 _ _ _
      | exact laws_eqCurve.mono _ _ _
      | exact laws_eqInt64S.mono _ _ _
      | exact laws_heldInt64S.mono _ _ _
      | exact laws_markCurve.mono _ _ _
      | exact laws_markInt64S.mono _ _ _
      | exact laws_toCurve.mono _ _
      | exact spec_BandsOf.mono _ _ _ _ _ _
      | exact LeO.none _
      | refine LeO.ite ?_ ?_
      | refine LeO.bind ?_ (fun _ => ?_)
theorem laws_FnExactBandsOf.mono : ∀ a0 a1 a2 a3 a4 k, LeO (laws_FnExactBandsOf.f k a0 a1 a2 a3 a4) (laws_FnExactBandsOf.f (k + 1) a0 a1 a2 a3 a4) := by
  intro a0 a1 a2 a3 a4 k
  obtain ⟨ih0, ih1, ih2⟩ := laws_FnExactBandsOf.mono_l k
  unfold laws_FnExactBandsOf.f
  repeat' first
      | (with_reducible exact ih0 _ _ _ _ _ _ _ _ _ _ _)
      | (with_reducible exact ih1 _ _ _ _ _ _ _ _ _)
      | (with_reducible exact ih2 _ _ _)
      | (with_reducible exact laws_eqCurve.mono _ _ _)
      | (with_reducible exact laws_eqInt64S.mono _ _ _)
      | (with_reducible exact laws_heldInt64S.mono _ _ _)
      | (with_reducible exact laws_markCurve.mono _ _ _)
      | (with_reducible exact laws_markInt64S.mono _ _ _)
      | (with_reducible exact laws_toCurve.mono _ _)
      | (with_reducible exact spec_BandsOf.mono _ _ _ _ _ _)
      | (with_reducible exact LeO.refl _)
      | (with_reducible exact LeO.none _)
      | (with_reducible refine LeO.ite ?_ ?_)
      | (with_reducible refine LeO.bind ?_ (fun _ => ?_))
      | exact ih0 _ _ _ _ _ _ _ _ _ _ _
      | exact ih1 _ _ _ _ _ _ _ _ _
      | exact ih2 _ _ _
      | exact laws_eqCurve.mono _ _ _
      | exact laws_eqInt64S.mono _ _ _
      | exact laws_heldInt64S.mono _ _ _
      | exact laws_markCurve.mono _ _ _
      | exact laws_markInt64S.mono _ _ _
      | exact laws_toCurve.mono _ _
      | exact spec_BandsOf.mono _ _ _ _ _ _
      | exact LeO.none _
      | refine LeO.ite ?_ ?_
      | refine LeO.bind ?_ (fun _ => ?_)
set_option maxHeartbeats 8000000 in
set_option maxRecDepth 100000 in
theorem laws_FnExactBandsOf.calls (k : Nat) (a0_0 : Int) (a0_1 : Int) (a0_2 : Int) (A1 : Option Addr) (c1 : Nat) (l1 : List (S68)) (a2 : Int) (r : Bool) (w : World) (hr1 : Kd.C k68 w A1 l1.length l1) (hc1 : l1.length ≤ c1) (h : laws_FnExactBandsOf.f k a0_0 a0_1 a0_2 l1 a2 = some r) (hT_ : Aside0 (r = true)) :
    Calls Try.prog 3 #[.agg #[.int .i8 a0_0, .int .i8 a0_1, .int .i8 a0_2], .slice A1 l1.length c1, .int .i64 a2] w fun e w' => e = .returned (.bool r) ∧ Below w.heap.size w w' := by
  have hu24 := Try.underlying24
  have HR1 := Aside0.mk hr1
  have HC1 := Aside0.mk hc1
  clear hr1 hc1
  have HB := Aside0.mk (Below.refl w.heap.size w)
  have H : ((laws_szCurve.f l1 1048576).bind fun t235 => (if t235 < 0 then (some true) else ((laws_toStrip.f a0_0 a0_1 a0_2).bind fun bt236 => ((laws_toCurve.f k l1).bind fun t239 => ((spec_BandsOf.f k bt236.1 bt236.2.1 bt236.2.2 t239 a2).bind fun bt242 => ((laws_toCurve.f k l1).bind fun t246 => ((laws_toStrip.f a0_0 a0_1 a0_2).bind fun bt249 => ((impl_BandsOf.f bt249.1 bt249.2.1 bt249.2.2 t246 a2).bind fun bt252 => ((laws_eqInt64S.f k bt252.1 bt242.1).bind fun t256 => (if t256 = true then (laws_FnExactBandsOf.j0 k l1 a2 bt242.1 bt242.2 t246 bt252.1 bt252.2 (bt252.2 != bt242.2) a0_0 a0_1 a0_2) else (laws_FnExactBandsOf.j0 k l1 a2 bt242.1 bt242.2 t246 bt252.1 bt252.2 true a0_0 a0_1 a0_2))))))))))) = some r := h
  clear h
  replace H := Option.bind_eq_some_iff.mp H
  obtain ⟨t235, A40, H⟩ := H
  replace H : (if t235 < 0 then (some true) else ((laws_toStrip.f a0_0 a0_1 a0_2).bind fun bt236 => ((laws_toCurve.f k l1).bind fun t239 => ((spec_BandsOf.f k bt236.1 bt236.2.1 bt236.2.2 t239 a2).bind fun bt242 => ((laws_toCurve.f k l1).bind fun t246 => ((laws_toStrip.f a0_0 a0_1 a0_2).bind fun bt249 => ((impl_BandsOf.f bt249.1 bt249.2.1 bt249.2.2 t246 a2).bind fun bt252 => ((laws_eqInt64S.f k bt252.1 bt242.1).bind fun t256 => (if t256 = true then (laws_FnExactBandsOf.j0 k l1 a2 bt242.1 bt242.2 t246 bt252.1 bt252.2 (bt252.2 != bt242.2) a0_0 a0_1 a0_2) else (laws_FnExactBandsOf.j0 k l1 a2 bt242.1 bt242.2 t246 bt252.1 bt252.2 true a0_0 a0_1 a0_2)))))))))) = some r := H
  have A4 := Aside0.mk A40
  clear A40
  by_cases c5 : t235 < 0
  · rw [if_pos c5] at H
    have c5b0 : decide (t235 < 0) = true := decide_eq_true c5
    clear c5
    obtain rfl := Option.some.inj H
    go_enter Try.func3, Try.ntmps3
    go_wp2_with (first | ((with_reducible refine gate_dst (N := 3) rfl ?_); refine box_event ?hg (N := 3) ?hd (cs := #[.int .i8 a0_0, .int .i8 a0_1, .int .i8 a0_2]) (t := 24) ?hr ?_; (case hd => rfl); (case hg => rfl); (case hr => first | (go_simp; done) | (go_simp; rfl)); intro gb234 hg w6 hbox hb; have n0_ := Aside0.mk (below_step (by repeat (first | (with_reducible first | exact HB.out | apply below_alloc | apply pw_below_drewN | apply below_drew1) | exact HB.out)) hb); have n1_ := Aside0.mk (hbox); have n2_ := Aside0.mk ((by rw [hg]; exact (below_size (by repeat (first | (with_reducible first | exact HB.out | apply below_alloc | apply pw_below_drewN | apply below_drew1) | exact HB.out))) : w.heap.size ≤ gb234)); have n3_ := Aside0.mk ((by rw [hg]; exact (below_size (by repeat (first | (with_reducible first | exact HB.out | apply below_alloc | apply pw_below_drewN | apply below_drew1) | exact HB.out))) : w.heap.size ≤ gb234)); clear HB; have HB := n0_; have BK234 := n1_; have GW234 := n2_; have GE234 := n3_; clear n0_ n1_ n2_ n3_; clear hb hbox hg) | ((with_reducible refine gate_callee (f := 7) rfl ?_); refine goesL_ (some 20) rfl rfl Try.func7 (by kernel_rfl) rfl #[.slice A1 l1.length c1, .int .i64 1048576] rfl (by (try simp only [List.map_toArray, List.map_cons, List.map_nil]); first | done | rfl | (simp only [List.length_drop, List.length_take]; rfl)) ?_; (with_reducible refine (laws_szCurve.calls _ _ l1 1048576 t235 _ ?side1 ?side2 A4.out).mono ?_); (case side1 => repeat (first | exact (Kd.C_below HR1.out HB.out) | (with_reducible refine Kd.C_alloc ?_ _) | (with_reducible refine Kd.C_drewN ?_ _) | (with_reducible refine Kd.C_drew ?_))); (case side2 => exact HC1.out); rintro e w' ⟨rfl, ⟨nd, rfl⟩⟩; refine ⟨_, rfl, ?_⟩))
    go_ret
    exact ⟨by first | rfl | (simp [errW_none, errW_some] <;> rfl) | (simp [*, errW_none, errW_some] <;> rfl), by repeat (first | (with_reducible first | exact HB.out | apply below_alloc | apply pw_below_drewN | apply below_drew1 | refine below_set ?_ GE234.out) | exact HB.out)⟩
  · rw [if_neg c5] at H
    have c5b0 : decide (t235 < 0) = false := decide_eq_false c5
    clear c5
    replace H := Option.bind_eq_some_iff.mp H
    obtain ⟨⟨t236, t237, t238⟩, A70, H⟩ := H
    replace H : ((laws_toCurve.f k l1).bind fun t239 => ((spec_BandsOf.f k t236 t237 t238 t239 a2).bind fun bt242 => ((laws_toCurve.f k l1).bind fun t246 => ((laws_toStrip.f a0_0 a0_1 a0_2).bind fun bt249 => ((impl_BandsOf.f bt249.1 bt249.2.1 bt249.2.2 t246 a2).bind fun bt252 => ((laws_eqInt64S.f k bt252.1 bt242.1).bind fun t256 => (if t256 = true then (laws_FnExactBandsOf.j0 k l1 a2 bt242.1 bt242.2 t246 bt252.1 bt252.2 (bt252.2 != bt242.2) a0_0 a0_1 a0_2) else (laws_FnExactBandsOf.j0 k l1 a2 bt242.1 bt242.2 t246 bt252.1 bt252.2 true a0_0 a0_1 a0_2)))))))) = some r := H
    have A7 := Aside0.mk A70
    clear A70
    replace H := Option.bind_eq_some_iff.mp H
    obtain ⟨t239, A80, H⟩ := H
    replace H : ((spec_BandsOf.f k t236 t237 t238 t239 a2).bind fun bt242 => ((laws_toCurve.f k l1).bind fun t246 => ((laws_toStrip.f a0_0 a0_1 a0_2).bind fun bt249 => ((impl_BandsOf.f bt249.1 bt249.2.1 bt249.2.2 t246 a2).bind fun bt252 => ((laws_eqInt64S.f k bt252.1 bt242.1).bind fun t256 => (if t256 = true then (laws_FnExactBandsOf.j0 k l1 a2 bt242.1 bt242.2 t246 bt252.1 bt252.2 (bt252.2 != bt242.2) a0_0 a0_1 a0_2) else (laws_FnExactBandsOf.j0 k l1 a2 bt242.1 bt242.2 t246 bt252.1 bt252.2 true a0_0 a0_1 a0_2))))))) = some r := H
    have A8 := Aside0.mk A80
    clear A80
    replace H := Option.bind_eq_some_iff.mp H
    obtain ⟨⟨t242, t245⟩, A90, H⟩ := H
    replace H : ((laws_toCurve.f k l1).bind fun t246 => ((laws_toStrip.f a0_0 a0_1 a0_2).bind fun bt249 => ((impl_BandsOf.f bt249.1 bt249.2.1 bt249.2.2 t246 a2).bind fun bt252 => ((laws_eqInt64S.f k bt252.1 t242).bind fun t256 => (if t256 = true then (laws_FnExactBandsOf.j0 k l1 a2 t242 t245 t246 bt252.1 bt252.2 (bt252.2 != t245) a0_0 a0_1 a0_2) else (laws_FnExactBandsOf.j0 k l1 a2 t242 t245 t246 bt252.1 bt252.2 true a0_0 a0_1 a0_2)))))) = some r := H
    have A9 := Aside0.mk A90
    clear A90
    replace H := Option.bind_eq_some_iff.mp H
    obtain ⟨t246, A100, H⟩ := H
    replace H : ((laws_toStrip.f a0_0 a0_1 a0_2).bind fun bt249 => ((impl_BandsOf.f bt249.1 bt249.2.1 bt249.2.2 t246 a2).bind fun bt252 => ((laws_eqInt64S.f k bt252.1 t242).bind fun t256 => (if t256 = true then (laws_FnExactBandsOf.j0 k l1 a2 t242 t245 t246 bt252.1 bt252.2 (bt252.2 != t245) a0_0 a0_1 a0_2) else (laws_FnExactBandsOf.j0 k l1 a2 t242 t245 t246 bt252.1 bt252.2 true a0_0 a0_1 a0_2))))) = some r := H
    have A10 := Aside0.mk A100
    clear A100
    replace H := Option.bind_eq_some_iff.mp H
    obtain ⟨⟨t249, t250, t251⟩, A110, H⟩ := H
    replace H : ((impl_BandsOf.f t249 t250 t251 t246 a2).bind fun bt252 => ((laws_eqInt64S.f k bt252.1 t242).bind fun t256 => (if t256 = true then (laws_FnExactBandsOf.j0 k l1 a2 t242 t245 t246 bt252.1 bt252.2 (bt252.2 != t245) a0_0 a0_1 a0_2) else (laws_FnExactBandsOf.j0 k l1 a2 t242 t245 t246 bt252.1 bt252.2 true a0_0 a0_1 a0_2)))) = some r := H
    have A11 := Aside0.mk A110
    clear A110
    replace H := Option.bind_eq_some_iff.mp H
    obtain ⟨⟨t252, t255⟩, A120, H⟩ := H
    replace H : ((laws_eqInt64S.f k t252 t242).bind fun t256 => (if t256 = true then (laws_FnExactBandsOf.j0 k l1 a2 t242 t245 t246 t252 t255 (t255 != t245) a0_0 a0_1 a0_2) else (laws_FnExactBandsOf.j0 k l1 a2 t242 t245 t246 t252 t255 true a0_0 a0_1 a0_2))) = some r := H
    have A12 := Aside0.mk A120
    clear A120
    have HC13 := Aside0.mk H
    clear H
    go_enter Try.func3, Try.ntmps3
    go_upto_region 8 with (first | ((with_reducible refine gate_dst (N := 3) rfl ?_); refine box_event ?hg (N := 3) ?hd (cs := #[.int .i8 a0_0, .int .i8 a0_1, .int .i8 a0_2]) (t := 24) ?hr ?_; (case hd => rfl); (case hg => rfl); (case hr => first | (go_simp; done) | (go_simp; rfl)); intro gb234 hg w14 hbox hb; have n0_ := Aside0.mk (below_step (by repeat (first | (with_reducible first | exact HB.out | apply below_alloc | apply pw_below_drewN | apply below_drew1) | exact HB.out)) hb); have n1_ := Aside0.mk (hbox); have n2_ := Aside0.mk ((by rw [hg]; exact (below_size (by repeat (first | (with_reducible first | exact HB.out | apply below_alloc | apply pw_below_drewN | apply below_drew1) | exact HB.out))) : w.heap.size ≤ gb234)); have n3_ := Aside0.mk ((by rw [hg]; exact (below_size (by repeat (first | (with_reducible first | exact HB.out | apply below_alloc | apply pw_below_drewN | apply below_drew1) | exact HB.out))) : w.heap.size ≤ gb234)); clear HB; have HB := n0_; have BK234 := n1_; have GW234 := n2_; have GE234 := n3_; clear n0_ n1_ n2_ n3_; clear hb hbox hg) | ((with_reducible refine gate_callee (f := 7) rfl ?_); refine goesL_ (some 20) rfl rfl Try.func7 (by kernel_rfl) rfl #[.slice A1 l1.length c1, .int .i64 1048576] rfl (by (try simp only [List.map_toArray, List.map_cons, List.map_nil]); first | done | rfl | (simp only [List.length_drop, List.length_take]; rfl)) ?_; (with_reducible refine (laws_szCurve.calls _ _ l1 1048576 t235 _ ?side1 ?side2 A4.out).mono ?_); (case side1 => repeat (first | exact (Kd.C_below HR1.out HB.out) | (with_reducible refine Kd.C_alloc ?_ _) | (with_reducible refine Kd.C_drewN ?_ _) | (with_reducible refine Kd.C_drew ?_))); (case side2 => exact HC1.out); rintro e w' ⟨rfl, ⟨nd, rfl⟩⟩; refine ⟨_, rfl, ?_⟩; have hcz15_0 : w14.cell? ⟨gb234, 0, none⟩ = some (.int .i8 a0_0) := (blk_cell BK234.out 0).trans rfl; have hcz15_1 : w14.cell? ⟨gb234, 1, none⟩ = some (.int .i8 a0_1) := (blk_cell BK234.out 1).trans rfl; have hcz15_2 : w14.cell? ⟨gb234, 2, none⟩ = some (.int .i8 a0_2) := (blk_cell BK234.out 2).trans rfl; have hfz15_0 := blk_frozen BK234.out 0; have hfz15_1 := blk_frozen BK234.out 1; have hfz15_2 := blk_frozen BK234.out 2) | ((with_reducible refine gate_callee (f := 9) rfl ?_); refine goesL_ (some 25) rfl rfl Try.func9 (by kernel_rfl) rfl #[.agg #[.int .i8 a0_0, .int .i8 a0_1, .int .i8 a0_2]] rfl (by (try simp only [List.map_toArray, List.map_cons, List.map_nil]); first | done | rfl | (simp only [List.length_drop, List.length_take]; rfl)) ?_; (with_reducible refine (laws_toStrip.calls a0_0 a0_1 a0_2 t236 t237 t238 _ A7.out).mono ?_); rintro e w16 ⟨rfl, hb⟩; refine ⟨_, rfl, ?_⟩; have n0_ := Aside0.mk (blk_below (g := gb234) (o := .cells #[.int .i8 a0_0, .int .i8 a0_1, .int .i8 a0_2] 24 (0, 0)) (by (with_reducible repeat (first | refine blk_drewN ?_ _ | refine blk_drew ?_ | refine blk_alloc ?_ _)); exact BK234.out) hb); have n1_ := Aside0.mk (below_step (by repeat (first | (with_reducible first | exact HB.out | apply below_alloc | apply pw_below_drewN | apply below_drew1 | refine below_set ?_ GE234.out) | exact HB.out)) hb); clear BK234; clear HB; have BK234 := n0_; have HB := n1_; clear n0_ n1_; (try clear hb); (try clear hb2); (try clear hk); (try clear hi)) | ((with_reducible refine gate_callee (f := 10) rfl ?_); refine goesL_ (some 27) rfl rfl Try.func10 (by kernel_rfl) rfl #[.slice A1 l1.length c1] rfl (by (try simp only [List.map_toArray, List.map_cons, List.map_nil]); first | done | rfl | (simp only [List.length_drop, List.length_take]; rfl)) ?_; (with_reducible refine (laws_toCurve.calls k _ _ l1 t239 _ ?side1 ?side2 A8.out).mono ?_); (case side1 => repeat (first | exact (Kd.C_below HR1.out HB.out) | (with_reducible refine Kd.C_alloc ?_ _) | (with_reducible refine Kd.C_drewN ?_ _) | (with_reducible refine Kd.C_drew ?_))); (case side2 => exact HC1.out); rintro e w17 ⟨v240, rfl, ho0, hb⟩; refine ⟨_, rfl, ?_⟩; have n0_ := Aside0.mk (Kd.R_lower ho0 (below_size (by repeat (first | (with_reducible first | exact HB.out | apply below_alloc | apply pw_below_drewN | apply below_drew1 | refine below_set ?_ GE234.out) | exact HB.out)))); have n1_ := Aside0.mk (blk_below (g := gb234) (o := .cells #[.int .i8 a0_0, .int .i8 a0_1, .int .i8 a0_2] 24 (0, 0)) (by (with_reducible repeat (first | refine blk_drewN ?_ _ | refine blk_drew ?_ | refine blk_alloc ?_ _)); exact BK234.out) hb); have n2_ := Aside0.mk (below_step (by repeat (first | (with_reducible first | exact HB.out | apply below_alloc | apply pw_below_drewN | apply below_drew1 | refine below_set ?_ GE234.out) | exact HB.out)) hb); clear BK234; clear HB; have HO241 := n0_; have BK234 := n1_; have HB := n2_; clear n0_ n1_ n2_; (try clear hb); (try clear hb2); (try clear hk); (try clear hi); (try clear ho0); obtain ⟨Ao18, co18, eo18⟩ := Kd.R_slice HO241.out; subst eo18) | ((with_reducible refine gate_callee (f := 8) rfl ?_); refine goesL_ (some 29) rfl rfl Try.func8 (by kernel_rfl) rfl #[.agg #[.int .i8 t236, .int .i8 t237, .int .i8 t238], .slice Ao18 t239.length co18, .int .i64 a2] rfl (by (try simp only [List.map_toArray, List.map_cons, List.map_nil]); first | done | rfl | (simp only [List.length_drop, List.length_take]; rfl)) ?_; (with_reducible refine (spec_BandsOf.calls k t236 t237 t238 _ _ t239 a2 t242 t245 _ ?side1 ?side2 A9.out).mono ?_); (case side1 => repeat (first | exact (Kd.R_reads' HO241.out).2.2 | (with_reducible refine Kd.C_alloc ?_ _) | (with_reducible refine Kd.C_drewN ?_ _) | (with_reducible refine Kd.C_drew ?_))); (case side2 => exact (Kd.R_reads' HO241.out).2.1); rintro e w19 ⟨v243, rfl, ho0, hb⟩; refine ⟨_, rfl, ?_⟩; have n0_ := Aside0.mk (Kd.R_below (by (with_reducible repeat (first | apply Kd.R_alloc | apply Kd.R_drewN | apply Kd.R_drew)); exact HO241.out) hb); have n1_ := Aside0.mk (Kd.R_lower ho0 (below_size (by repeat (first | (with_reducible first | exact HB.out | apply below_alloc | apply pw_below_drewN | apply below_drew1 | refine below_set ?_ GE234.out) | exact HB.out)))); have n2_ := Aside0.mk (blk_below (g := gb234) (o := .cells #[.int .i8 a0_0, .int .i8 a0_1, .int .i8 a0_2] 24 (0, 0)) (by (with_reducible repeat (first | refine blk_drewN ?_ _ | refine blk_drew ?_ | refine blk_alloc ?_ _)); exact BK234.out) hb); have n3_ := Aside0.mk (below_step (by repeat (first | (with_reducible first | exact HB.out | apply below_alloc | apply pw_below_drewN | apply below_drew1 | refine below_set ?_ GE234.out) | exact HB.out)) hb); clear HO241; clear BK234; clear HB; have HO241 := n0_; have HO244 := n1_; have BK234 := n2_; have HB := n3_; clear n0_ n1_ n2_ n3_; (try clear hb); (try clear hb2); (try clear hk); (try clear hi); (try clear ho0)) | ((with_reducible refine gate_callee (f := 10) rfl ?_); refine goesL_ (some 33) rfl rfl Try.func10 (by kernel_rfl) rfl #[.slice A1 l1.length c1] rfl (by (try simp only [List.map_toArray, List.map_cons, List.map_nil]); first | done | rfl | (simp only [List.length_drop, List.length_take]; rfl)) ?_; (with_reducible refine (laws_toCurve.calls k _ _ l1 t246 _ ?side1 ?side2 A10.out).mono ?_); (case side1 => repeat (first | exact (Kd.C_below HR1.out HB.out) | (with_reducible refine Kd.C_alloc ?_ _) | (with_reducible refine Kd.C_drewN ?_ _) | (with_reducible refine Kd.C_drew ?_))); (case side2 => exact HC1.out); rintro e w20 ⟨v247, rfl, ho0, hb⟩; refine ⟨_, rfl, ?_⟩; have n0_ := Aside0.mk (Kd.R_elder' (by (with_reducible repeat (first | apply Kd.R_alloc | apply Kd.R_drewN | apply Kd.R_drew)); exact HO241.out) (Kd.R_base ho0) hb); have n1_ := Aside0.mk (Kd.R_below (by (with_reducible repeat (first | apply Kd.R_alloc | apply Kd.R_drewN | apply Kd.R_drew)); exact HO244.out) hb); have n2_ := Aside0.mk (Kd.R_lower (Kd.R_new' ho0 (Kd.R_lt (by (with_reducible repeat (first | apply Kd.R_alloc | apply Kd.R_drewN | apply Kd.R_drew)); exact HO241.out))) (below_size (by repeat (first | (with_reducible first | exact HB.out | apply below_alloc | apply pw_below_drewN | apply below_drew1 | refine below_set ?_ GE234.out) | exact HB.out)))); have n3_ := Aside0.mk (blk_below (g := gb234) (o := .cells #[.int .i8 a0_0, .int .i8 a0_1, .int .i8 a0_2] 24 (0, 0)) (by (with_reducible repeat (first | refine blk_drewN ?_ _ | refine blk_drew ?_ | refine blk_alloc ?_ _)); exact BK234.out) hb); have n4_ := Aside0.mk (below_step (by repeat (first | (with_reducible first | exact HB.out | apply below_alloc | apply pw_below_drewN | apply below_drew1 | refine below_set ?_ GE234.out) | exact HB.out)) hb); clear HO241; clear HO244; clear BK234; clear HB; have HO241 := n0_; have HO244 := n1_; have HO248 := n2_; have BK234 := n3_; have HB := n4_; clear n0_ n1_ n2_ n3_ n4_; (try clear hb); (try clear hb2); (try clear hk); (try clear hi); (try clear ho0); have hcz21_0 : w20.cell? ⟨gb234, 0, none⟩ = some (.int .i8 a0_0) := (blk_cell BK234.out 0).trans rfl; have hcz21_1 : w20.cell? ⟨gb234, 1, none⟩ = some (.int .i8 a0_1) := (blk_cell BK234.out 1).trans rfl; have hcz21_2 : w20.cell? ⟨gb234, 2, none⟩ = some (.int .i8 a0_2) := (blk_cell BK234.out 2).trans rfl; have hfz21_0 := blk_frozen BK234.out 0; have hfz21_1 := blk_frozen BK234.out 1; have hfz21_2 := blk_frozen BK234.out 2) | ((with_reducible refine gate_callee (f := 9) rfl ?_); refine goesL_ (some 36) rfl rfl Try.func9 (by kernel_rfl) rfl #[.agg #[.int .i8 a0_0, .int .i8 a0_1, .int .i8 a0_2]] rfl (by (try simp only [List.map_toArray, List.map_cons, List.map_nil]); first | done | rfl | (simp only [List.length_drop, List.length_take]; rfl)) ?_; (with_reducible refine (laws_toStrip.calls a0_0 a0_1 a0_2 t249 t250 t251 _ A11.out).mono ?_); rintro e w22 ⟨rfl, hb⟩; refine ⟨_, rfl, ?_⟩; have n0_ := Aside0.mk (Kd.R_below (by (with_reducible repeat (first | apply Kd.R_alloc | apply Kd.R_drewN | apply Kd.R_drew)); exact HO241.out) hb); have n1_ := Aside0.mk (Kd.R_below (by (with_reducible repeat (first | apply Kd.R_alloc | apply Kd.R_drewN | apply Kd.R_drew)); exact HO244.out) hb); have n2_ := Aside0.mk (Kd.R_below (by (with_reducible repeat (first | apply Kd.R_alloc | apply Kd.R_drewN | apply Kd.R_drew)); exact HO248.out) hb); have n3_ := Aside0.mk (blk_below (g := gb234) (o := .cells #[.int .i8 a0_0, .int .i8 a0_1, .int .i8 a0_2] 24 (0, 0)) (by (with_reducible repeat (first | refine blk_drewN ?_ _ | refine blk_drew ?_ | refine blk_alloc ?_ _)); exact BK234.out) hb); have n4_ := Aside0.mk (below_step (by repeat (first | (with_reducible first | exact HB.out | apply below_alloc | apply pw_below_drewN | apply below_drew1 | refine below_set ?_ GE234.out) | exact HB.out)) hb); clear HO241; clear HO244; clear HO248; clear BK234; clear HB; have HO241 := n0_; have HO244 := n1_; have HO248 := n2_; have BK234 := n3_; have HB := n4_; clear n0_ n1_ n2_ n3_ n4_; (try clear hb); (try clear hb2); (try clear hk); (try clear hi); obtain ⟨Ao23, co23, eo23⟩ := Kd.R_slice HO248.out; subst eo23) | ((with_reducible refine gate_callee (f := 11) rfl ?_); refine goesL_ (some 39) rfl rfl Try.func11 (by kernel_rfl) rfl #[.agg #[.int .i8 t249, .int .i8 t250, .int .i8 t251], .slice Ao23 t246.length co23, .int .i64 a2] rfl (by (try simp only [List.map_toArray, List.map_cons, List.map_nil]); first | done | rfl | (simp only [List.length_drop, List.length_take]; rfl)) ?_; (with_reducible refine (impl_BandsOf.calls t249 t250 t251 _ _ t246 a2 t252 t255 _ ?side1 ?side2 A12.out).mono ?_); (case side1 => repeat (first | exact (Kd.R_reads' HO248.out).2.2 | (with_reducible refine Kd.C_alloc ?_ _) | (with_reducible refine Kd.C_drewN ?_ _) | (with_reducible refine Kd.C_drew ?_))); (case side2 => exact (Kd.R_reads' HO248.out).2.1); rintro e w24 ⟨v253, rfl, ho0, hb⟩; refine ⟨_, rfl, ?_⟩; have n0_ := Aside0.mk (Kd.R_below (by (with_reducible repeat (first | apply Kd.R_alloc | apply Kd.R_drewN | apply Kd.R_drew)); exact HO241.out) hb); have n1_ := Aside0.mk (Kd.R_elder' (by (with_reducible repeat (first | apply Kd.R_alloc | apply Kd.R_drewN | apply Kd.R_drew)); exact HO244.out) (Kd.R_base ho0) hb); have n2_ := Aside0.mk (Kd.R_below (by (with_reducible repeat (first | apply Kd.R_alloc | apply Kd.R_drewN | apply Kd.R_drew)); exact HO248.out) hb); have n3_ := Aside0.mk (Kd.R_lower (Kd.R_new' ho0 (Kd.R_lt (by (with_reducible repeat (first | apply Kd.R_alloc | apply Kd.R_drewN | apply Kd.R_drew)); exact HO244.out))) (below_size (by repeat (first | (with_reducible first | exact HB.out | apply below_alloc | apply pw_below_drewN | apply below_drew1 | refine below_set ?_ GE234.out) | exact HB.out)))); have n4_ := Aside0.mk (blk_below (g := gb234) (o := .cells #[.int .i8 a0_0, .int .i8 a0_1, .int .i8 a0_2] 24 (0, 0)) (by (with_reducible repeat (first | refine blk_drewN ?_ _ | refine blk_drew ?_ | refine blk_alloc ?_ _)); exact BK234.out) hb); have n5_ := Aside0.mk (below_step (by repeat (first | (with_reducible first | exact HB.out | apply below_alloc | apply pw_below_drewN | apply below_drew1 | refine below_set ?_ GE234.out) | exact HB.out)) hb); clear HO241; clear HO244; clear HO248; clear BK234; clear HB; have HO241 := n0_; have HO244 := n1_; have HO248 := n2_; have HO254 := n3_; have BK234 := n4_; have HB := n5_; clear n0_ n1_ n2_ n3_ n4_ n5_; (try clear hb); (try clear hb2); (try clear hk); (try clear hi); (try clear ho0)))
    (try simp only [Act.put, List.setIfInBounds_toArray, List.set_cons_zero, List.set_cons_succ])
    go_cut [50] (fun v50 wc => ∃ (kq : Nat) (x50_12 : Bool), v50 = .bool x50_12 ∧ Aside0 (laws_FnExactBandsOf.j0 kq l1 a2 t242 t245 t246 t252 t255 x50_12 a0_0 a0_1 a0_2 = some r) ∧ Aside0 (kq ≤ k) ∧ Aside0 (Kd.R (Kd.int .i64) 2 wc w.heap.size (fun k_ => some k_ ≠ (v253 : Value).ownBlock) v243 t242) ∧ Aside0 (Kd.R k66 66 wc w.heap.size (fun _ => True) (.slice Ao23 t246.length co23) t246) ∧ Aside0 (Kd.R (Kd.int .i64) 2 wc w.heap.size (fun k_ => some k_ ≠ (v243 : Value).ownBlock) v253 t252) ∧ Aside0 (wc.heap[gb234]? = some (.cells #[.int .i8 a0_0, .int .i8 a0_1, .int .i8 a0_2] 24 (0, 0))) ∧ Aside0 (Below w.heap.size w wc))
    case first =>
      have H := HC13.out
      clear HC13
      replace H := Option.bind_eq_some_iff.mp H
      obtain ⟨t256, A250, H⟩ := H
      replace H : (if t256 = true then (laws_FnExactBandsOf.j0 k l1 a2 t242 t245 t246 t252 t255 (t255 != t245) a0_0 a0_1 a0_2) else (laws_FnExactBandsOf.j0 k l1 a2 t242 t245 t246 t252 t255 true a0_0 a0_1 a0_2)) = some r := H
      have A25 := Aside0.mk A250
      clear A250
      by_cases c26 : t256 = true
      · subst c26
        have H1 : (laws_FnExactBandsOf.j0 k l1 a2 t242 t245 t246 t252 t255 (t255 != t245) a0_0 a0_1 a0_2) = some r := by rw [if_pos rfl] at H; exact H
        clear H
        have H := H1
        clear H1
        have H' := Aside0.mk H
        clear H
        obtain ⟨Ao27, co27, eo27⟩ := Kd.R_slice HO254.out
        subst eo27
        obtain ⟨Ao28, co28, eo28⟩ := Kd.R_slice HO244.out
        subst eo28
        go_wp2_with (first | ((with_reducible refine gate_callee (f := 12) rfl ?_); refine goesL_ (some 44) rfl rfl Try.func12 (by kernel_rfl) rfl #[.slice Ao27 t252.length co27, .slice Ao28 t242.length co28] rfl (by (try simp only [List.map_toArray, List.map_cons, List.map_nil]); first | done | rfl | (simp only [List.length_drop, List.length_take]; rfl)) ?_; (with_reducible refine (laws_eqInt64S.calls k _ _ t252 _ _ t242 true _ ?side1 ?side2 ?side3 ?side4 A25.out).mono ?_); (case side1 => repeat (first | exact (Kd.R_reads' HO254.out).2.2 | (with_reducible refine Kd.C_alloc ?_ _) | (with_reducible refine Kd.C_drewN ?_ _) | (with_reducible refine Kd.C_drew ?_))); (case side2 => exact (Kd.R_reads' HO254.out).2.1); (case side3 => repeat (first | exact (Kd.R_reads' HO244.out).2.2 | (with_reducible refine Kd.C_alloc ?_ _) | (with_reducible refine Kd.C_drewN ?_ _) | (with_reducible refine Kd.C_drew ?_))); (case side4 => exact (Kd.R_reads' HO244.out).2.1); rintro e w' ⟨rfl, ⟨nd, rfl⟩⟩; refine ⟨_, rfl, ?_⟩))
        go_meet
        case rel => exact ⟨_, ((t255 != t245)), (by first | rfl | (simp; done) | (simp [*]; done)), H', ⟨by first | omega | exact Nat.le_refl _⟩, ⟨by (with_reducible repeat (first | apply Kd.R_alloc | apply Kd.R_drewN | apply Kd.R_drew)); exact Kd.R_mono HO244.out (fun _ hk => hk.2)⟩, ⟨by (with_reducible repeat (first | apply Kd.R_alloc | apply Kd.R_drewN | apply Kd.R_drew)); exact Kd.R_mono HO248.out (fun _ hk => trivial)⟩, ⟨by (with_reducible repeat (first | apply Kd.R_alloc | apply Kd.R_drewN | apply Kd.R_drew)); exact Kd.R_mono HO254.out (fun _ hk => hk.2)⟩, ⟨by (with_reducible repeat (first | refine blk_drewN ?_ _ | refine blk_drew ?_ | refine blk_alloc ?_ _)); exact BK234.out⟩, ⟨by repeat (first | (with_reducible first | exact HB.out | apply below_alloc | apply pw_below_drewN | apply below_drew1 | refine below_set ?_ GE234.out) | exact HB.out)⟩⟩
      · replace c26 := Bool.eq_false_iff.mpr c26
        subst c26
        have H1 : (laws_FnExactBandsOf.j0 k l1 a2 t242 t245 t246 t252 t255 true a0_0 a0_1 a0_2) = some r := by rw [if_neg (show ¬ (false = true) by decide)] at H; exact H
        clear H
        have H := H1
        clear H1
        have H' := Aside0.mk H
        clear H
        obtain ⟨Ao29, co29, eo29⟩ := Kd.R_slice HO254.out
        subst eo29
        obtain ⟨Ao30, co30, eo30⟩ := Kd.R_slice HO244.out
        subst eo30
        go_wp2_with (first | ((with_reducible refine gate_callee (f := 12) rfl ?_); refine goesL_ (some 44) rfl rfl Try.func12 (by kernel_rfl) rfl #[.slice Ao29 t252.length co29, .slice Ao30 t242.length co30] rfl (by (try simp only [List.map_toArray, List.map_cons, List.map_nil]); first | done | rfl | (simp only [List.length_drop, List.length_take]; rfl)) ?_; (with_reducible refine (laws_eqInt64S.calls k _ _ t252 _ _ t242 false _ ?side1 ?side2 ?side3 ?side4 A25.out).mono ?_); (case side1 => repeat (first | exact (Kd.R_reads' HO254.out).2.2 | (with_reducible refine Kd.C_alloc ?_ _) | (with_reducible refine Kd.C_drewN ?_ _) | (with_reducible refine Kd.C_drew ?_))); (case side2 => exact (Kd.R_reads' HO254.out).2.1); (case side3 => repeat (first | exact (Kd.R_reads' HO244.out).2.2 | (with_reducible refine Kd.C_alloc ?_ _) | (with_reducible refine Kd.C_drewN ?_ _) | (with_reducible refine Kd.C_drew ?_))); (case side4 => exact (Kd.R_reads' HO244.out).2.1); rintro e w' ⟨rfl, ⟨nd, rfl⟩⟩; refine ⟨_, rfl, ?_⟩))
        go_meet
        case rel => exact ⟨_, (true), (by first | rfl | (simp; done) | (simp [*]; done)), H', ⟨by first | omega | exact Nat.le_refl _⟩, ⟨by (with_reducible repeat (first | apply Kd.R_alloc | apply Kd.R_drewN | apply Kd.R_drew)); exact Kd.R_mono HO244.out (fun _ hk => hk.2)⟩, ⟨by (with_reducible repeat (first | apply Kd.R_alloc | apply Kd.R_drewN | apply Kd.R_drew)); exact Kd.R_mono HO248.out (fun _ hk => trivial)⟩, ⟨by (with_reducible repeat (first | apply Kd.R_alloc | apply Kd.R_drewN | apply Kd.R_drew)); exact Kd.R_mono HO254.out (fun _ hk => hk.2)⟩, ⟨by (with_reducible repeat (first | refine blk_drewN ?_ _ | refine blk_drew ?_ | refine blk_alloc ?_ _)); exact BK234.out⟩, ⟨by repeat (first | (with_reducible first | exact HB.out | apply below_alloc | apply pw_below_drewN | apply below_drew1 | refine below_set ?_ GE234.out) | exact HB.out)⟩⟩
    case rest =>
      clear HC13
      try clear c1
      try clear c2
      try clear p2
      try clear c3
      try clear c5
      try clear c5b0
      try clear c7
      try clear c8
      try clear c9
      try clear c10
      try clear c11
      try clear c12
      try clear c26
      try clear hcz15_0
      try clear hcz15_1
      try clear hcz15_2
      try clear hcz21_0
      try clear hcz21_1
      try clear hcz21_2
      try clear hfz15_0
      try clear hfz15_1
      try clear hfz15_2
      try clear hfz21_0
      try clear hfz21_1
      try clear hfz21_2
      obtain ⟨kq, x50_12, rfl, HA, HJ12, HO_8, HO_10, HO_11, BK234, HB⟩ := hcut
      cases kq with
      | zero => exact absurd HA.out (by simp [laws_FnExactBandsOf.j0])
      | succ kj12 =>
        have H := HA.out
        clear HA
        simp only [laws_FnExactBandsOf.j0] at H
        by_cases c31 : x50_12 = true
        · subst c31
          have H1 : (some false) = some r := by rw [if_pos rfl] at H; exact H
          clear H
          have H := H1
          clear H1
          exact absurd (Option.some.inj H) (by rw [hT_.out]; decide)
        · replace c31 := Bool.eq_false_iff.mpr c31
          subst c31
          have H1 : ((laws_toCurve.f kj12 l1).bind fun t257 => ((laws_eqCurve.f kj12 t246 t257).bind fun t260 => (if t260 = true then ((laws_markCurve.f kj12 t246 1).bind fun bt261 => (if bt261.1 < 0 then (laws_FnExactBandsOf.j1 kj12 l1 a2 t242 t245 t252 true a0_0 a0_1 a0_2) else ((laws_eqInt64S.f kj12 t252 t242).bind fun t263 => (if t263 = true then (laws_FnExactBandsOf.j1 kj12 l1 a2 t242 t245 t252 (t255 != t245) a0_0 a0_1 a0_2) else (laws_FnExactBandsOf.j1 kj12 l1 a2 t242 t245 t252 true a0_0 a0_1 a0_2))))) else (some false)))) = some r := by rw [if_neg (show ¬ (false = true) by decide)] at H; exact H
          clear H
          have H := H1
          clear H1
          replace H := Option.bind_eq_some_iff.mp H
          obtain ⟨t257, A320, H⟩ := H
          replace H : ((laws_eqCurve.f kj12 t246 t257).bind fun t260 => (if t260 = true then ((laws_markCurve.f kj12 t246 1).bind fun bt261 => (if bt261.1 < 0 then (laws_FnExactBandsOf.j1 kj12 l1 a2 t242 t245 t252 true a0_0 a0_1 a0_2) else ((laws_eqInt64S.f kj12 t252 t242).bind fun t263 => (if t263 = true then (laws_FnExactBandsOf.j1 kj12 l1 a2 t242 t245 t252 (t255 != t245) a0_0 a0_1 a0_2) else (laws_FnExactBandsOf.j1 kj12 l1 a2 t242 t245 t252 true a0_0 a0_1 a0_2))))) else (some false))) = some r := H
          have A32 := Aside0.mk A320
          clear A320
          replace H := Option.bind_eq_some_iff.mp H
          obtain ⟨t260, A330, H⟩ := H
          replace H : (if t260 = true then ((laws_markCurve.f kj12 t246 1).bind fun bt261 => (if bt261.1 < 0 then (laws_FnExactBandsOf.j1 kj12 l1 a2 t242 t245 t252 true a0_0 a0_1 a0_2) else ((laws_eqInt64S.f kj12 t252 t242).bind fun t263 => (if t263 = true then (laws_FnExactBandsOf.j1 kj12 l1 a2 t242 t245 t252 (t255 != t245) a0_0 a0_1 a0_2) else (laws_FnExactBandsOf.j1 kj12 l1 a2 t242 t245 t252 true a0_0 a0_1 a0_2))))) else (some false)) = some r := H
          have A33 := Aside0.mk A330
          clear A330
          by_cases c34 : t260 = true
          · subst c34
            have H1 : ((laws_markCurve.f kj12 t246 1).bind fun bt261 => (if bt261.1 < 0 then (laws_FnExactBandsOf.j1 kj12 l1 a2 t242 t245 t252 true a0_0 a0_1 a0_2) else ((laws_eqInt64S.f kj12 t252 t242).bind fun t263 => (if t263 = true then (laws_FnExactBandsOf.j1 kj12 l1 a2 t242 t245 t252 (t255 != t245) a0_0 a0_1 a0_2) else (laws_FnExactBandsOf.j1 kj12 l1 a2 t242 t245 t252 true a0_0 a0_1 a0_2))))) = some r := by rw [if_pos rfl] at H; exact H
            clear H
            have H := H1
            clear H1
            replace H := Option.bind_eq_some_iff.mp H
            obtain ⟨⟨t261, t262⟩, A350, H⟩ := H
            replace H : (if t261 < 0 then (laws_FnExactBandsOf.j1 kj12 l1 a2 t242 t245 t252 true a0_0 a0_1 a0_2) else ((laws_eqInt64S.f kj12 t252 t242).bind fun t263 => (if t263 = true then (laws_FnExactBandsOf.j1 kj12 l1 a2 t242 t245 t252 (t255 != t245) a0_0 a0_1 a0_2) else (laws_FnExactBandsOf.j1 kj12 l1 a2 t242 t245 t252 true a0_0 a0_1 a0_2)))) = some r := H
            have A35 := Aside0.mk A350
            clear A350
            have HC36 := Aside0.mk H
            clear H
            go_upto_region 14 with (first | ((with_reducible refine gate_callee (f := 10) rfl ?_); refine goesL_ (some 53) rfl rfl Try.func10 (by kernel_rfl) rfl #[.slice A1 l1.length c1] rfl (by (try simp only [List.map_toArray, List.map_cons, List.map_nil]); first | done | rfl | (simp only [List.length_drop, List.length_take]; rfl)) ?_; (with_reducible refine (laws_toCurve.calls kj12 _ _ l1 t257 _ ?side1 ?side2 A32.out).mono ?_); (case side1 => repeat (first | exact (Kd.C_below HR1.out HB.out) | (with_reducible refine Kd.C_alloc ?_ _) | (with_reducible refine Kd.C_drewN ?_ _) | (with_reducible refine Kd.C_drew ?_))); (case side2 => exact HC1.out); rintro e w37 ⟨v258, rfl, ho0, hb⟩; refine ⟨_, rfl, ?_⟩; have n0_ := Aside0.mk (Kd.R_below (by (with_reducible repeat (first | apply Kd.R_alloc | apply Kd.R_drewN | apply Kd.R_drew)); exact HO_8.out) hb); have n1_ := Aside0.mk (Kd.R_elder' (by (with_reducible repeat (first | apply Kd.R_alloc | apply Kd.R_drewN | apply Kd.R_drew)); exact HO_10.out) (Kd.R_base ho0) hb); have n2_ := Aside0.mk (Kd.R_below (by (with_reducible repeat (first | apply Kd.R_alloc | apply Kd.R_drewN | apply Kd.R_drew)); exact HO_11.out) hb); have n3_ := Aside0.mk (Kd.R_lower (Kd.R_new' ho0 (Kd.R_lt (by (with_reducible repeat (first | apply Kd.R_alloc | apply Kd.R_drewN | apply Kd.R_drew)); exact HO_10.out))) (below_size (by repeat (first | (with_reducible first | exact HB.out | apply below_alloc | apply pw_below_drewN | apply below_drew1 | refine below_set ?_ GE234.out) | exact HB.out)))); have n4_ := Aside0.mk (blk_below (g := gb234) (o := .cells #[.int .i8 a0_0, .int .i8 a0_1, .int .i8 a0_2] 24 (0, 0)) (by (with_reducible repeat (first | refine blk_drewN ?_ _ | refine blk_drew ?_ | refine blk_alloc ?_ _)); exact BK234.out) hb); have n5_ := Aside0.mk (below_step (by repeat (first | (with_reducible first | exact HB.out | apply below_alloc | apply pw_below_drewN | apply below_drew1 | refine below_set ?_ GE234.out) | exact HB.out)) hb); clear HO_8; clear HO_10; clear HO_11; clear BK234; clear HB; have HO_8 := n0_; have HO_10 := n1_; have HO_11 := n2_; have HO259 := n3_; have BK234 := n4_; have HB := n5_; clear n0_ n1_ n2_ n3_ n4_ n5_; (try clear hb); (try clear hb2); (try clear hk); (try clear hi); (try clear ho0); obtain ⟨Ao38, co38, eo38⟩ := Kd.R_slice HO259.out; subst eo38) | ((with_reducible refine gate_callee (f := 13) rfl ?_); refine goesL_ (some 54) rfl rfl Try.func13 (by kernel_rfl) rfl #[.slice Ao23 t246.length co23, .slice Ao38 t257.length co38] rfl (by (try simp only [List.map_toArray, List.map_cons, List.map_nil]); first | done | rfl | (simp only [List.length_drop, List.length_take]; rfl)) ?_; (with_reducible refine (laws_eqCurve.calls kj12 _ _ t246 _ _ t257 true _ ?side1 ?side2 ?side3 ?side4 A33.out).mono ?_); (case side1 => repeat (first | exact (Kd.R_reads' HO_10.out).2.2 | (with_reducible refine Kd.C_alloc ?_ _) | (with_reducible refine Kd.C_drewN ?_ _) | (with_reducible refine Kd.C_drew ?_))); (case side2 => exact (Kd.R_reads' HO_10.out).2.1); (case side3 => repeat (first | exact (Kd.R_reads' HO259.out).2.2 | (with_reducible refine Kd.C_alloc ?_ _) | (with_reducible refine Kd.C_drewN ?_ _) | (with_reducible refine Kd.C_drew ?_))); (case side4 => exact (Kd.R_reads' HO259.out).2.1); rintro e w39 ⟨rfl, hb⟩; refine ⟨_, rfl, ?_⟩; have n0_ := Aside0.mk (Kd.R_below (by (with_reducible repeat (first | apply Kd.R_alloc | apply Kd.R_drewN | apply Kd.R_drew)); exact HO_8.out) hb); have n1_ := Aside0.mk (Kd.R_below (by (with_reducible repeat (first | apply Kd.R_alloc | apply Kd.R_drewN | apply Kd.R_drew)); exact HO_10.out) hb); have n2_ := Aside0.mk (Kd.R_below (by (with_reducible repeat (first | apply Kd.R_alloc | apply Kd.R_drewN | apply Kd.R_drew)); exact HO_11.out) hb); have n3_ := Aside0.mk (Kd.R_below (by (with_reducible repeat (first | apply Kd.R_alloc | apply Kd.R_drewN | apply Kd.R_drew)); exact HO259.out) hb); have n4_ := Aside0.mk (blk_below (g := gb234) (o := .cells #[.int .i8 a0_0, .int .i8 a0_1, .int .i8 a0_2] 24 (0, 0)) (by (with_reducible repeat (first | refine blk_drewN ?_ _ | refine blk_drew ?_ | refine blk_alloc ?_ _)); exact BK234.out) hb); have n5_ := Aside0.mk (below_step (by repeat (first | (with_reducible first | exact HB.out | apply below_alloc | apply pw_below_drewN | apply below_drew1 | refine below_set ?_ GE234.out) | exact HB.out)) hb); clear HO_8; clear HO_10; clear HO_11; clear HO259; clear BK234; clear HB; have HO_8 := n0_; have HO_10 := n1_; have HO_11 := n2_; have HO259 := n3_; have BK234 := n4_; have HB := n5_; clear n0_ n1_ n2_ n3_ n4_ n5_; (try clear hb); (try clear hb2); (try clear hk); (try clear hi)) | ((with_reducible refine gate_callee (f := 14) rfl ?_); refine goesL_ (some 58) rfl rfl Try.func14 (by kernel_rfl) rfl #[.slice Ao23 t246.length co23, .int .i64 1] rfl (by (try simp only [List.map_toArray, List.map_cons, List.map_nil]); first | done | rfl | (simp only [List.length_drop, List.length_take]; rfl)) ?_; (with_reducible refine (laws_markCurve.calls kj12 (fun k_ => some k_ = (.slice Ao23 t246.length co23 : Value).ownBlock) (.slice Ao23 t246.length co23) t246 1 t261 t262 w _ ?side1 ?side2 A35.out).mono ?_); (case side1 => repeat (first | (with_reducible first | exact HB.out | apply below_alloc | apply pw_below_drewN | apply below_drew1 | refine below_set ?_ GE234.out) | exact HB.out)); (case side2 => exact Kd.R_tight rfl HO_10.out); rintro e w40 ⟨rfl, hy0, hb, hkp⟩; refine ⟨_, rfl, ?_⟩; have n0_ := Aside0.mk (Kd.R_mono (ok' := fun k_ => some k_ ≠ (v253 : Value).ownBlock) (Kd.R_keptB ((Kd.R_apart' HO_8.out (Kd.R_typed HO_10.out) (by decide))) hkp (fun k_ hk_ hs_ => (hk_.2) hs_)) (fun k_ hk_ => hk_.1.1)); have n1_ := Aside0.mk (Kd.R_reok rfl hy0 (fun k_ e_ => HO_10.out.1 k_ e_)); have n2_ := Aside0.mk (Kd.R_mono (ok' := fun k_ => some k_ ≠ (v243 : Value).ownBlock) (Kd.R_keptB ((Kd.R_apart' HO_11.out (Kd.R_typed HO_10.out) (by decide))) hkp (fun k_ hk_ hs_ => (hk_.2) hs_)) (fun k_ hk_ => hk_.1.1)); have n3_ := Aside0.mk (blk_kept (by (with_reducible repeat (first | refine blk_drewN ?_ _ | refine blk_drew ?_ | refine blk_alloc ?_ _)); exact BK234.out) hkp (fun hs_ => (fun e_ => (Kd.R_ne HO_10.out BK234.out (by decide)) e_) hs_)); have n4_ := Aside0.mk (Kd.R_mono (ok' := fun k_ => some k_ ≠ (.slice Ao23 t246.length co23 : Value).ownBlock) (Kd.R_keptB (HO259.out) hkp (fun k_ hk_ hs_ => (hk_.2) hs_)) (fun k_ hk_ => hk_.1.2)); have n5_ := Aside0.mk (hb); clear HO_8; clear HO_10; clear HO_11; clear BK234; clear HO259; clear HB; have HO_8 := n0_; have HO_10 := n1_; have HO_11 := n2_; have BK234 := n3_; have HO259 := n4_; have HB := n5_; clear n0_ n1_ n2_ n3_ n4_ n5_; (try clear hb); (try clear hkp); (try clear hy0)))
            (try simp only [Act.put, List.setIfInBounds_toArray, List.set_cons_zero, List.set_cons_succ])
            go_cut [71] (fun v71 wc => ∃ (kq : Nat) (x71_35 : Bool), v71 = .bool x71_35 ∧ Aside0 (laws_FnExactBandsOf.j1 kq l1 a2 t242 t245 t252 x71_35 a0_0 a0_1 a0_2 = some r) ∧ Aside0 (kq ≤ kj12) ∧ Aside0 (Kd.R (Kd.int .i64) 2 wc w.heap.size (fun k_ => some k_ ≠ (v253 : Value).ownBlock) v243 t242) ∧ Aside0 (Kd.R (Kd.int .i64) 2 wc w.heap.size (fun k_ => some k_ ≠ (v243 : Value).ownBlock) v253 t252) ∧ Aside0 (wc.heap[gb234]? = some (.cells #[.int .i8 a0_0, .int .i8 a0_1, .int .i8 a0_2] 24 (0, 0))) ∧ Aside0 (Below w.heap.size w wc))
            case first =>
              have H := HC36.out
              clear HC36
              by_cases c41 : t261 < 0
              · rw [if_pos c41] at H
                have c41b0 : decide (t261 < 0) = true := decide_eq_true c41
                clear c41
                (first | rw [c41b0] | (simp only [i64_w, i32_w]; rw [c41b0]) | skip)
                have H' := Aside0.mk H
                clear H
                go_wp2
                go_meet
                case rel => exact ⟨_, (true), (by first | rfl | (simp; done) | (simp [*]; done)), H', ⟨by have := HJ12.out; first | omega | exact Nat.le_refl _⟩, ⟨by (with_reducible repeat (first | apply Kd.R_alloc | apply Kd.R_drewN | apply Kd.R_drew)); exact HO_8.out⟩, ⟨by (with_reducible repeat (first | apply Kd.R_alloc | apply Kd.R_drewN | apply Kd.R_drew)); exact HO_11.out⟩, ⟨by (with_reducible repeat (first | refine blk_drewN ?_ _ | refine blk_drew ?_ | refine blk_alloc ?_ _)); exact BK234.out⟩, ⟨by repeat (first | (with_reducible first | exact HB.out | apply below_alloc | apply pw_below_drewN | apply below_drew1 | refine below_set ?_ GE234.out) | exact HB.out)⟩⟩
              · rw [if_neg c41] at H
                have c41b0 : decide (t261 < 0) = false := decide_eq_false c41
                clear c41
                (first | rw [c41b0] | (simp only [i64_w, i32_w]; rw [c41b0]) | skip)
                replace H := Option.bind_eq_some_iff.mp H
                obtain ⟨t263, A420, H⟩ := H
                replace H : (if t263 = true then (laws_FnExactBandsOf.j1 kj12 l1 a2 t242 t245 t252 (t255 != t245) a0_0 a0_1 a0_2) else (laws_FnExactBandsOf.j1 kj12 l1 a2 t242 t245 t252 true a0_0 a0_1 a0_2)) = some r := H
                have A42 := Aside0.mk A420
                clear A420
                by_cases c43 : t263 = true
                · subst c43
                  have H1 : (laws_FnExactBandsOf.j1 kj12 l1 a2 t242 t245 t252 (t255 != t245) a0_0 a0_1 a0_2) = some r := by rw [if_pos rfl] at H; exact H
                  clear H
                  have H := H1
                  clear H1
                  have H' := Aside0.mk H
                  clear H
                  obtain ⟨Ao44, co44, eo44⟩ := Kd.R_slice HO_11.out
                  subst eo44
                  obtain ⟨Ao45, co45, eo45⟩ := Kd.R_slice HO_8.out
                  subst eo45
                  go_wp2_with (first | (go_at_call 12; (with_reducible refine (laws_eqInt64S.calls kj12 _ _ t252 _ _ t242 true _ ?side1 ?side2 ?side3 ?side4 A42.out).mono ?_); (case side1 => repeat (first | exact (Kd.R_reads' HO_11.out).2.2 | (with_reducible refine Kd.C_alloc ?_ _) | (with_reducible refine Kd.C_drewN ?_ _) | (with_reducible refine Kd.C_drew ?_))); (case side2 => exact (Kd.R_reads' HO_11.out).2.1); (case side3 => repeat (first | exact (Kd.R_reads' HO_8.out).2.2 | (with_reducible refine Kd.C_alloc ?_ _) | (with_reducible refine Kd.C_drewN ?_ _) | (with_reducible refine Kd.C_drew ?_))); (case side4 => exact (Kd.R_reads' HO_8.out).2.1); rintro e w' ⟨rfl, ⟨nd, rfl⟩⟩))
                  go_meet
                  case rel => exact ⟨_, ((t255 != t245)), (by first | rfl | (simp; done) | (simp [*]; done)), H', ⟨by have := HJ12.out; first | omega | exact Nat.le_refl _⟩, ⟨by (with_reducible repeat (first | apply Kd.R_alloc | apply Kd.R_drewN | apply Kd.R_drew)); exact HO_8.out⟩, ⟨by (with_reducible repeat (first | apply Kd.R_alloc | apply Kd.R_drewN | apply Kd.R_drew)); exact HO_11.out⟩, ⟨by (with_reducible repeat (first | refine blk_drewN ?_ _ | refine blk_drew ?_ | refine blk_alloc ?_ _)); exact BK234.out⟩, ⟨by repeat (first | (with_reducible first | exact HB.out | apply below_alloc | apply pw_below_drewN | apply below_drew1 | refine below_set ?_ GE234.out) | exact HB.out)⟩⟩
                · replace c43 := Bool.eq_false_iff.mpr c43
                  subst c43
                  have H1 : (laws_FnExactBandsOf.j1 kj12 l1 a2 t242 t245 t252 true a0_0 a0_1 a0_2) = some r := by rw [if_neg (show ¬ (false = true) by decide)] at H; exact H
                  clear H
                  have H := H1
                  clear H1
                  have H' := Aside0.mk H
                  clear H
                  obtain ⟨Ao46, co46, eo46⟩ := Kd.R_slice HO_11.out
                  subst eo46
                  obtain ⟨Ao47, co47, eo47⟩ := Kd.R_slice HO_8.out
                  subst eo47
                  go_wp2_with (first | (go_at_call 12; (with_reducible refine (laws_eqInt64S.calls kj12 _ _ t252 _ _ t242 false _ ?side1 ?side2 ?side3 ?side4 A42.out).mono ?_); (case side1 => repeat (first | exact (Kd.R_reads' HO_11.out).2.2 | (with_reducible refine Kd.C_alloc ?_ _) | (with_reducible refine Kd.C_drewN ?_ _) | (with_reducible refine Kd.C_drew ?_))); (case side2 => exact (Kd.R_reads' HO_11.out).2.1); (case side3 => repeat (first | exact (Kd.R_reads' HO_8.out).2.2 | (with_reducible refine Kd.C_alloc ?_ _) | (with_reducible refine Kd.C_drewN ?_ _) | (with_reducible refine Kd.C_drew ?_))); (case side4 => exact (Kd.R_reads' HO_8.out).2.1); rintro e w' ⟨rfl, ⟨nd, rfl⟩⟩))
                  go_meet
                  case rel => exact ⟨_, (true), (by first | rfl | (simp; done) | (simp [*]; done)), H', ⟨by have := HJ12.out; first | omega | exact Nat.le_refl _⟩, ⟨by (with_reducible repeat (first | apply Kd.R_alloc | apply Kd.R_drewN | apply Kd.R_drew)); exact HO_8.out⟩, ⟨by (with_reducible repeat (first | apply Kd.R_alloc | apply Kd.R_drewN | apply Kd.R_drew)); exact HO_11.out⟩, ⟨by (with_reducible repeat (first | refine blk_drewN ?_ _ | refine blk_drew ?_ | refine blk_alloc ?_ _)); exact BK234.out⟩, ⟨by repeat (first | (with_reducible first | exact HB.out | apply below_alloc | apply pw_below_drewN | apply below_drew1 | refine below_set ?_ GE234.out) | exact HB.out)⟩⟩
            case rest =>
              clear HC36
              try clear c1
              try clear c2
              try clear p2
              try clear c3
              try clear c4
              try clear c5
              try clear c5b0
              try clear c7
              try clear c8
              try clear c9
              try clear c10
              try clear c11
              try clear c12
              try clear c13
              try clear c14
              try clear c26
              try clear c31
              try clear c34
              try clear c41
              try clear c41b0
              try clear c43
              try clear hcz15_0
              try clear hcz15_1
              try clear hcz15_2
              try clear hcz21_0
              try clear hcz21_1
              try clear hcz21_2
              try clear hfz15_0
              try clear hfz15_1
              try clear hfz15_2
              try clear hfz21_0
              try clear hfz21_1
              try clear hfz21_2
              try clear p2
              obtain ⟨kq, x71_35, rfl, HA, HJ35, HO_8, HO_11, BK234, HB⟩ := hcut
              cases kq with
              | zero => exact absurd HA.out (by simp [laws_FnExactBandsOf.j1])
              | succ kj35 =>
                have H := HA.out
                clear HA
                simp only [laws_FnExactBandsOf.j1] at H
                by_cases c48 : x71_35 = true
                · subst c48
                  have H1 : (some false) = some r := by rw [if_pos rfl] at H; exact H
                  clear H
                  have H := H1
                  clear H1
                  exact absurd (Option.some.inj H) (by rw [hT_.out]; decide)
                · replace c48 := Bool.eq_false_iff.mpr c48
                  subst c48
                  have H1 : ((laws_markInt64S.f kj35 t252 1).bind fun bt264 => ((laws_heldInt64S.f kj35 bt264.2 1).bind fun t266 => (if t266 < 0 then (some false) else (if t266 = bt264.1 then ((laws_toStrip.f a0_0 a0_1 a0_2).bind fun bt267 => ((laws_toCurve.f kj35 l1).bind fun t270 => ((impl_BandsOf.f bt267.1 bt267.2.1 bt267.2.2 t270 a2).bind fun bt273 => ((laws_eqInt64S.f kj35 bt273.1 t242).bind fun t277 => (if t277 = true then (laws_FnExactBandsOf.j2 kj35 bt264.2 bt264.1 (bt273.2 != t245)) else (laws_FnExactBandsOf.j2 kj35 bt264.2 bt264.1 true)))))) else (some false))))) = some r := by rw [if_neg (show ¬ (false = true) by decide)] at H; exact H
                  clear H
                  have H := H1
                  clear H1
                  replace H := Option.bind_eq_some_iff.mp H
                  obtain ⟨⟨t264, t265⟩, A490, H⟩ := H
                  replace H : ((laws_heldInt64S.f kj35 t265 1).bind fun t266 => (if t266 < 0 then (some false) else (if t266 = t264 then ((laws_toStrip.f a0_0 a0_1 a0_2).bind fun bt267 => ((laws_toCurve.f kj35 l1).bind fun t270 => ((impl_BandsOf.f bt267.1 bt267.2.1 bt267.2.2 t270 a2).bind fun bt273 => ((laws_eqInt64S.f kj35 bt273.1 t242).bind fun t277 => (if t277 = true then (laws_FnExactBandsOf.j2 kj35 t265 t264 (bt273.2 != t245)) else (laws_FnExactBandsOf.j2 kj35 t265 t264 true)))))) else (some false)))) = some r := H
                  have A49 := Aside0.mk A490
                  clear A490
                  replace H := Option.bind_eq_some_iff.mp H
                  obtain ⟨t266, A500, H⟩ := H
                  replace H : (if t266 < 0 then (some false) else (if t266 = t264 then ((laws_toStrip.f a0_0 a0_1 a0_2).bind fun bt267 => ((laws_toCurve.f kj35 l1).bind fun t270 => ((impl_BandsOf.f bt267.1 bt267.2.1 bt267.2.2 t270 a2).bind fun bt273 => ((laws_eqInt64S.f kj35 bt273.1 t242).bind fun t277 => (if t277 = true then (laws_FnExactBandsOf.j2 kj35 t265 t264 (bt273.2 != t245)) else (laws_FnExactBandsOf.j2 kj35 t265 t264 true)))))) else (some false))) = some r := H
                  have A50 := Aside0.mk A500
                  clear A500
                  by_cases c51 : t266 < 0
                  · rw [if_pos c51] at H
                    have c51b0 : decide (t266 < 0) = true := decide_eq_true c51
                    clear c51
                    exact absurd (Option.some.inj H) (by rw [hT_.out]; decide)
                  · rw [if_neg c51] at H
                    have c51b0 : decide (t266 < 0) = false := decide_eq_false c51
                    clear c51
                    by_cases c52 : t266 = t264
                    · rw [if_pos c52] at H
                      have c52b0 : (t266 == t264) = true := beq_iff_eq.mpr c52
                      have c52b1 : (t266 != t264) = false := bne_eq_false_iff_eq.mpr c52
                      clear c52
                      replace H := Option.bind_eq_some_iff.mp H
                      obtain ⟨⟨t267, t268, t269⟩, A530, H⟩ := H
                      replace H : ((laws_toCurve.f kj35 l1).bind fun t270 => ((impl_BandsOf.f t267 t268 t269 t270 a2).bind fun bt273 => ((laws_eqInt64S.f kj35 bt273.1 t242).bind fun t277 => (if t277 = true then (laws_FnExactBandsOf.j2 kj35 t265 t264 (bt273.2 != t245)) else (laws_FnExactBandsOf.j2 kj35 t265 t264 true))))) = some r := H
                      have A53 := Aside0.mk A530
                      clear A530
                      replace H := Option.bind_eq_some_iff.mp H
                      obtain ⟨t270, A540, H⟩ := H
                      replace H : ((impl_BandsOf.f t267 t268 t269 t270 a2).bind fun bt273 => ((laws_eqInt64S.f kj35 bt273.1 t242).bind fun t277 => (if t277 = true then (laws_FnExactBandsOf.j2 kj35 t265 t264 (bt273.2 != t245)) else (laws_FnExactBandsOf.j2 kj35 t265 t264 true)))) = some r := H
                      have A54 := Aside0.mk A540
                      clear A540
                      replace H := Option.bind_eq_some_iff.mp H
                      obtain ⟨⟨t273, t276⟩, A550, H⟩ := H
                      replace H : ((laws_eqInt64S.f kj35 t273 t242).bind fun t277 => (if t277 = true then (laws_FnExactBandsOf.j2 kj35 t265 t264 (t276 != t245)) else (laws_FnExactBandsOf.j2 kj35 t265 t264 true))) = some r := H
                      have A55 := Aside0.mk A550
                      clear A550
                      have HC56 := Aside0.mk H
                      clear H
                      obtain ⟨Ao57, co57, eo57⟩ := Kd.R_slice HO_11.out
                      subst eo57
                      go_upto_region 25 with (first | ((with_reducible refine gate_callee (f := 15) rfl ?_); refine goesL_ (some 74) rfl rfl Try.func15 (by kernel_rfl) rfl #[.slice Ao57 t252.length co57, .int .i64 1] rfl (by (try simp only [List.map_toArray, List.map_cons, List.map_nil]); first | done | rfl | (simp only [List.length_drop, List.length_take]; rfl)) ?_; (with_reducible refine (laws_markInt64S.calls kj35 (fun k_ => some k_ = (.slice Ao57 t252.length co57 : Value).ownBlock) (.slice Ao57 t252.length co57) t252 1 t264 t265 w _ ?side1 ?side2 A49.out).mono ?_); (case side1 => repeat (first | (with_reducible first | exact HB.out | apply below_alloc | apply pw_below_drewN | apply below_drew1 | refine below_set ?_ GE234.out) | exact HB.out)); (case side2 => exact Kd.R_tight rfl HO_11.out); rintro e w58 ⟨rfl, hy0, hb, hkp⟩; refine ⟨_, rfl, ?_⟩; have n0_ := Aside0.mk (Kd.R_mono (ok' := fun k_ => some k_ ≠ (.slice Ao57 t252.length co57 : Value).ownBlock) (Kd.R_keptB (HO_8.out) hkp (fun k_ hk_ hs_ => (hk_) hs_)) (fun k_ hk_ => hk_.1)); have n1_ := Aside0.mk (Kd.R_reok rfl hy0 (fun k_ e_ => HO_11.out.1 k_ e_)); have n2_ := Aside0.mk (blk_kept (by (with_reducible repeat (first | refine blk_drewN ?_ _ | refine blk_drew ?_ | refine blk_alloc ?_ _)); exact BK234.out) hkp (fun hs_ => (fun e_ => (Kd.R_ne HO_11.out BK234.out (by decide)) e_) hs_)); have n3_ := Aside0.mk (hb); clear HO_8; clear HO_11; clear BK234; clear HB; have HO_8 := n0_; have HO_11 := n1_; have BK234 := n2_; have HB := n3_; clear n0_ n1_ n2_ n3_; (try clear hb); (try clear hkp); (try clear hy0)) | ((with_reducible refine gate_callee (f := 16) rfl ?_); refine goesL_ (some 77) rfl rfl Try.func16 (by kernel_rfl) rfl #[.slice Ao57 t265.length co57, .int .i64 1] rfl (by (try simp only [List.map_toArray, List.map_cons, List.map_nil]); first | done | (rw [show t265.length = t252.length from (Kd.R_reads' HO_11.out).1.symm] <;> rfl) | rfl | (simp only [List.length_drop, List.length_take]; rfl)) ?_; (with_reducible refine (laws_heldInt64S.calls kj35 _ _ t265 1 t266 _ ?side1 ?side2 A50.out).mono ?_); (case side1 => repeat (first | exact (Kd.R_reads' HO_11.out).2.2 | (with_reducible refine Kd.C_alloc ?_ _) | (with_reducible refine Kd.C_drewN ?_ _) | (with_reducible refine Kd.C_drew ?_))); (case side2 => rw [show t265.length = t252.length from (Kd.R_reads' HO_11.out).1.symm]; exact (Kd.R_reads' HO_11.out).2.1); rintro e w' ⟨rfl, ⟨nd, rfl⟩⟩; refine ⟨_, rfl, ?_⟩; have hcz59_0 : w58.cell? ⟨gb234, 0, none⟩ = some (.int .i8 a0_0) := (blk_cell BK234.out 0).trans rfl; have hcz59_1 : w58.cell? ⟨gb234, 1, none⟩ = some (.int .i8 a0_1) := (blk_cell BK234.out 1).trans rfl; have hcz59_2 : w58.cell? ⟨gb234, 2, none⟩ = some (.int .i8 a0_2) := (blk_cell BK234.out 2).trans rfl; have hfz59_0 := blk_frozen BK234.out 0; have hfz59_1 := blk_frozen BK234.out 1; have hfz59_2 := blk_frozen BK234.out 2) | ((with_reducible refine gate_callee (f := 9) rfl ?_); refine goesL_ (some 85) rfl rfl Try.func9 (by kernel_rfl) rfl #[.agg #[.int .i8 a0_0, .int .i8 a0_1, .int .i8 a0_2]] rfl (by (try simp only [List.map_toArray, List.map_cons, List.map_nil]); first | done | rfl | (simp only [List.length_drop, List.length_take]; rfl)) ?_; (with_reducible refine (laws_toStrip.calls a0_0 a0_1 a0_2 t267 t268 t269 _ A53.out).mono ?_); rintro e w60 ⟨rfl, hb⟩; refine ⟨_, rfl, ?_⟩; have n0_ := Aside0.mk (Kd.R_below (by (with_reducible repeat (first | apply Kd.R_alloc | apply Kd.R_drewN | apply Kd.R_drew)); exact HO_8.out) hb); have n1_ := Aside0.mk (Kd.R_below (by (with_reducible repeat (first | apply Kd.R_alloc | apply Kd.R_drewN | apply Kd.R_drew)); exact HO_11.out) hb); have n2_ := Aside0.mk (blk_below (g := gb234) (o := .cells #[.int .i8 a0_0, .int .i8 a0_1, .int .i8 a0_2] 24 (0, 0)) (by (with_reducible repeat (first | refine blk_drewN ?_ _ | refine blk_drew ?_ | refine blk_alloc ?_ _)); exact BK234.out) hb); have n3_ := Aside0.mk (below_step (by repeat (first | (with_reducible first | exact HB.out | apply below_alloc | apply pw_below_drewN | apply below_drew1 | refine below_set ?_ GE234.out) | exact HB.out)) hb); clear HO_8; clear HO_11; clear BK234; clear HB; have HO_8 := n0_; have HO_11 := n1_; have BK234 := n2_; have HB := n3_; clear n0_ n1_ n2_ n3_; (try clear hb); (try clear hb2); (try clear hk); (try clear hi)) | ((with_reducible refine gate_callee (f := 10) rfl ?_); refine goesL_ (some 87) rfl rfl Try.func10 (by kernel_rfl) rfl #[.slice A1 l1.length c1] rfl (by (try simp only [List.map_toArray, List.map_cons, List.map_nil]); first | done | rfl | (simp only [List.length_drop, List.length_take]; rfl)) ?_; (with_reducible refine (laws_toCurve.calls kj35 _ _ l1 t270 _ ?side1 ?side2 A54.out).mono ?_); (case side1 => repeat (first | exact (Kd.C_below HR1.out HB.out) | (with_reducible refine Kd.C_alloc ?_ _) | (with_reducible refine Kd.C_drewN ?_ _) | (with_reducible refine Kd.C_drew ?_))); (case side2 => exact HC1.out); rintro e w61 ⟨v271, rfl, ho0, hb⟩; refine ⟨_, rfl, ?_⟩; have n0_ := Aside0.mk (Kd.R_below (by (with_reducible repeat (first | apply Kd.R_alloc | apply Kd.R_drewN | apply Kd.R_drew)); exact HO_8.out) hb); have n1_ := Aside0.mk (Kd.R_below (by (with_reducible repeat (first | apply Kd.R_alloc | apply Kd.R_drewN | apply Kd.R_drew)); exact HO_11.out) hb); have n2_ := Aside0.mk (Kd.R_lower ho0 (below_size (by repeat (first | (with_reducible first | exact HB.out | apply below_alloc | apply pw_below_drewN | apply below_drew1 | refine below_set ?_ GE234.out) | exact HB.out)))); have n3_ := Aside0.mk (blk_below (g := gb234) (o := .cells #[.int .i8 a0_0, .int .i8 a0_1, .int .i8 a0_2] 24 (0, 0)) (by (with_reducible repeat (first | refine blk_drewN ?_ _ | refine blk_drew ?_ | refine blk_alloc ?_ _)); exact BK234.out) hb); have n4_ := Aside0.mk (below_step (by repeat (first | (with_reducible first | exact HB.out | apply below_alloc | apply pw_below_drewN | apply below_drew1 | refine below_set ?_ GE234.out) | exact HB.out)) hb); clear HO_8; clear HO_11; clear BK234; clear HB; have HO_8 := n0_; have HO_11 := n1_; have HO272 := n2_; have BK234 := n3_; have HB := n4_; clear n0_ n1_ n2_ n3_ n4_; (try clear hb); (try clear hb2); (try clear hk); (try clear hi); (try clear ho0); obtain ⟨Ao62, co62, eo62⟩ := Kd.R_slice HO272.out; subst eo62) | ((with_reducible refine gate_callee (f := 11) rfl ?_); refine goesL_ (some 89) rfl rfl Try.func11 (by kernel_rfl) rfl #[.agg #[.int .i8 t267, .int .i8 t268, .int .i8 t269], .slice Ao62 t270.length co62, .int .i64 a2] rfl (by (try simp only [List.map_toArray, List.map_cons, List.map_nil]); first | done | rfl | (simp only [List.length_drop, List.length_take]; rfl)) ?_; (with_reducible refine (impl_BandsOf.calls t267 t268 t269 _ _ t270 a2 t273 t276 _ ?side1 ?side2 A55.out).mono ?_); (case side1 => repeat (first | exact (Kd.R_reads' HO272.out).2.2 | (with_reducible refine Kd.C_alloc ?_ _) | (with_reducible refine Kd.C_drewN ?_ _) | (with_reducible refine Kd.C_drew ?_))); (case side2 => exact (Kd.R_reads' HO272.out).2.1); rintro e w63 ⟨v274, rfl, ho0, hb⟩; refine ⟨_, rfl, ?_⟩; have n0_ := Aside0.mk (Kd.R_elder' (by (with_reducible repeat (first | apply Kd.R_alloc | apply Kd.R_drewN | apply Kd.R_drew)); exact HO_8.out) (Kd.R_base ho0) hb); have n1_ := Aside0.mk (Kd.R_elder' (by (with_reducible repeat (first | apply Kd.R_alloc | apply Kd.R_drewN | apply Kd.R_drew)); exact HO_11.out) (Kd.R_base ho0) hb); have n2_ := Aside0.mk (Kd.R_below (by (with_reducible repeat (first | apply Kd.R_alloc | apply Kd.R_drewN | apply Kd.R_drew)); exact HO272.out) hb); have n3_ := Aside0.mk (Kd.R_lower (Kd.R_new' (Kd.R_new' ho0 (Kd.R_lt (by (with_reducible repeat (first | apply Kd.R_alloc | apply Kd.R_drewN | apply Kd.R_drew)); exact HO_8.out))) (Kd.R_lt (by (with_reducible repeat (first | apply Kd.R_alloc | apply Kd.R_drewN | apply Kd.R_drew)); exact HO_11.out))) (below_size (by repeat (first | (with_reducible first | exact HB.out | apply below_alloc | apply pw_below_drewN | apply below_drew1 | refine below_set ?_ GE234.out) | exact HB.out)))); have n4_ := Aside0.mk (blk_below (g := gb234) (o := .cells #[.int .i8 a0_0, .int .i8 a0_1, .int .i8 a0_2] 24 (0, 0)) (by (with_reducible repeat (first | refine blk_drewN ?_ _ | refine blk_drew ?_ | refine blk_alloc ?_ _)); exact BK234.out) hb); have n5_ := Aside0.mk (below_step (by repeat (first | (with_reducible first | exact HB.out | apply below_alloc | apply pw_below_drewN | apply below_drew1 | refine below_set ?_ GE234.out) | exact HB.out)) hb); clear HO_8; clear HO_11; clear HO272; clear BK234; clear HB; have HO_8 := n0_; have HO_11 := n1_; have HO272 := n2_; have HO275 := n3_; have BK234 := n4_; have HB := n5_; clear n0_ n1_ n2_ n3_ n4_ n5_; (try clear hb); (try clear hb2); (try clear hk); (try clear hi); (try clear ho0)))
                      (try simp only [Act.put, List.setIfInBounds_toArray, List.set_cons_zero, List.set_cons_succ])
                      go_cut [100] (fun v100 wc => ∃ (kq : Nat) (x100_55 : Bool), v100 = .bool x100_55 ∧ Aside0 (laws_FnExactBandsOf.j2 kq t265 t264 x100_55 = some r) ∧ Aside0 (kq ≤ kj35) ∧ Aside0 (Kd.R (Kd.int .i64) 2 wc w.heap.size (fun _ => True) (.slice Ao57 t252.length co57) t265) ∧ Aside0 (wc.heap[gb234]? = some (.cells #[.int .i8 a0_0, .int .i8 a0_1, .int .i8 a0_2] 24 (0, 0))) ∧ Aside0 (Below w.heap.size w wc))
                      case first =>
                        have H := HC56.out
                        clear HC56
                        replace H := Option.bind_eq_some_iff.mp H
                        obtain ⟨t277, A640, H⟩ := H
                        replace H : (if t277 = true then (laws_FnExactBandsOf.j2 kj35 t265 t264 (t276 != t245)) else (laws_FnExactBandsOf.j2 kj35 t265 t264 true)) = some r := H
                        have A64 := Aside0.mk A640
                        clear A640
                        by_cases c65 : t277 = true
                        · subst c65
                          have H1 : (laws_FnExactBandsOf.j2 kj35 t265 t264 (t276 != t245)) = some r := by rw [if_pos rfl] at H; exact H
                          clear H
                          have H := H1
                          clear H1
                          have H' := Aside0.mk H
                          clear H
                          obtain ⟨Ao66, co66, eo66⟩ := Kd.R_slice HO275.out
                          subst eo66
                          obtain ⟨Ao67, co67, eo67⟩ := Kd.R_slice HO_8.out
                          subst eo67
                          go_wp2_with (first | ((with_reducible refine gate_callee (f := 12) rfl ?_); refine goesL_ (some 94) rfl rfl Try.func12 (by kernel_rfl) rfl #[.slice Ao66 t273.length co66, .slice Ao67 t242.length co67] rfl (by (try simp only [List.map_toArray, List.map_cons, List.map_nil]); first | done | rfl | (simp only [List.length_drop, List.length_take]; rfl)) ?_; (with_reducible refine (laws_eqInt64S.calls kj35 _ _ t273 _ _ t242 true _ ?side1 ?side2 ?side3 ?side4 A64.out).mono ?_); (case side1 => repeat (first | exact (Kd.R_reads' HO275.out).2.2 | (with_reducible refine Kd.C_alloc ?_ _) | (with_reducible refine Kd.C_drewN ?_ _) | (with_reducible refine Kd.C_drew ?_))); (case side2 => exact (Kd.R_reads' HO275.out).2.1); (case side3 => repeat (first | exact (Kd.R_reads' HO_8.out).2.2 | (with_reducible refine Kd.C_alloc ?_ _) | (with_reducible refine Kd.C_drewN ?_ _) | (with_reducible refine Kd.C_drew ?_))); (case side4 => exact (Kd.R_reads' HO_8.out).2.1); rintro e w' ⟨rfl, ⟨nd, rfl⟩⟩; refine ⟨_, rfl, ?_⟩))
                          go_meet
                          case rel => exact ⟨_, ((t276 != t245)), (by first | rfl | (simp; done) | (simp [*]; done)), H', ⟨by have := HJ12.out; have := HJ35.out; first | omega | exact Nat.le_refl _⟩, ⟨by (with_reducible repeat (first | apply Kd.R_alloc | apply Kd.R_drewN | apply Kd.R_drew)); exact Kd.R_mono HO_11.out (fun _ hk => trivial)⟩, ⟨by (with_reducible repeat (first | refine blk_drewN ?_ _ | refine blk_drew ?_ | refine blk_alloc ?_ _)); exact BK234.out⟩, ⟨by repeat (first | (with_reducible first | exact HB.out | apply below_alloc | apply pw_below_drewN | apply below_drew1 | refine below_set ?_ GE234.out) | exact HB.out)⟩⟩
                        · replace c65 := Bool.eq_false_iff.mpr c65
                          subst c65
                          have H1 : (laws_FnExactBandsOf.j2 kj35 t265 t264 true) = some r := by rw [if_neg (show ¬ (false = true) by decide)] at H; exact H
                          clear H
                          have H := H1
                          clear H1
                          have H' := Aside0.mk H
                          clear H
                          obtain ⟨Ao68, co68, eo68⟩ := Kd.R_slice HO275.out
                          subst eo68
                          obtain ⟨Ao69, co69, eo69⟩ := Kd.R_slice HO_8.out
                          subst eo69
                          go_wp2_with (first | ((with_reducible refine gate_callee (f := 12) rfl ?_); refine goesL_ (some 94) rfl rfl Try.func12 (by kernel_rfl) rfl #[.slice Ao68 t273.length co68, .slice Ao69 t242.length co69] rfl (by (try simp only [List.map_toArray, List.map_cons, List.map_nil]); first | done | rfl | (simp only [List.length_drop, List.length_take]; rfl)) ?_; (with_reducible refine (laws_eqInt64S.calls kj35 _ _ t273 _ _ t242 false _ ?side1 ?side2 ?side3 ?side4 A64.out).mono ?_); (case side1 => repeat (first | exact (Kd.R_reads' HO275.out).2.2 | (with_reducible refine Kd.C_alloc ?_ _) | (with_reducible refine Kd.C_drewN ?_ _) | (with_reducible refine Kd.C_drew ?_))); (case side2 => exact (Kd.R_reads' HO275.out).2.1); (case side3 => repeat (first | exact (Kd.R_reads' HO_8.out).2.2 | (with_reducible refine Kd.C_alloc ?_ _) | (with_reducible refine Kd.C_drewN ?_ _) | (with_reducible refine Kd.C_drew ?_))); (case side4 => exact (Kd.R_reads' HO_8.out).2.1); rintro e w' ⟨rfl, ⟨nd, rfl⟩⟩; refine ⟨_, rfl, ?_⟩))
                          go_meet
                          case rel => exact ⟨_, (true), (by first | rfl | (simp; done) | (simp [*]; done)), H', ⟨by have := HJ12.out; have := HJ35.out; first | omega | exact Nat.le_refl _⟩, ⟨by (with_reducible repeat (first | apply Kd.R_alloc | apply Kd.R_drewN | apply Kd.R_drew)); exact Kd.R_mono HO_11.out (fun _ hk => trivial)⟩, ⟨by (with_reducible repeat (first | refine blk_drewN ?_ _ | refine blk_drew ?_ | refine blk_alloc ?_ _)); exact BK234.out⟩, ⟨by repeat (first | (with_reducible first | exact HB.out | apply below_alloc | apply pw_below_drewN | apply below_drew1 | refine below_set ?_ GE234.out) | exact HB.out)⟩⟩
                      case rest =>
                        clear HC56
                        try clear c1
                        try clear c2
                        try clear p2
                        try clear c3
                        try clear c4
                        try clear c5
                        try clear c5b0
                        try clear c6
                        try clear c7
                        try clear c8
                        try clear c9
                        try clear c10
                        try clear c11
                        try clear c12
                        try clear c13
                        try clear c14
                        try clear c15
                        try clear c16
                        try clear c26
                        try clear c31
                        try clear c34
                        try clear c41
                        try clear c41b0
                        try clear c43
                        try clear c48
                        try clear c51
                        try clear c51b0
                        try clear c52
                        try clear c52b0
                        try clear c52b1
                        try clear c65
                        try clear hcz15_0
                        try clear hcz15_1
                        try clear hcz15_2
                        try clear hcz21_0
                        try clear hcz21_1
                        try clear hcz21_2
                        try clear hcz59_0
                        try clear hcz59_1
                        try clear hcz59_2
                        try clear hfz15_0
                        try clear hfz15_1
                        try clear hfz15_2
                        try clear hfz21_0
                        try clear hfz21_1
                        try clear hfz21_2
                        try clear hfz59_0
                        try clear hfz59_1
                        try clear hfz59_2
                        try clear p2
                        obtain ⟨kq, x100_55, rfl, HA, HJ55, HO_11, BK234, HB⟩ := hcut
                        have hl11_55 := (Kd.R_reads' HO_11.out).1
                        rw [hl11_55] at HO_11
                        (try simp only [hl11_55])
                        (try simp only [hl11_55] at BK234)
                        cases kq with
                        | zero => exact absurd HA.out (by simp [laws_FnExactBandsOf.j2])
                        | succ kj55 =>
                          have H := HA.out
                          clear HA
                          simp only [laws_FnExactBandsOf.j2] at H
                          by_cases c70 : x100_55 = true
                          · subst c70
                            have H1 : (some false) = some r := by rw [if_pos rfl] at H; exact H
                            clear H
                            have H := H1
                            clear H1
                            exact absurd (Option.some.inj H) (by rw [hT_.out]; decide)
                          · replace c70 := Bool.eq_false_iff.mpr c70
                            subst c70
                            have H1 : ((laws_heldInt64S.f kj55 t265 1).bind fun t278 => (if t278 < 0 then (some false) else (if t278 = t264 then (some true) else (some false)))) = some r := by rw [if_neg (show ¬ (false = true) by decide)] at H; exact H
                            clear H
                            have H := H1
                            clear H1
                            replace H := Option.bind_eq_some_iff.mp H
                            obtain ⟨t278, A710, H⟩ := H
                            replace H : (if t278 < 0 then (some false) else (if t278 = t264 then (some true) else (some false))) = some r := H
                            have A71 := Aside0.mk A710
                            clear A710
                            by_cases c72 : t278 < 0
                            · rw [if_pos c72] at H
                              have c72b0 : decide (t278 < 0) = true := decide_eq_true c72
                              clear c72
                              exact absurd (Option.some.inj H) (by rw [hT_.out]; decide)
                            · rw [if_neg c72] at H
                              have c72b0 : decide (t278 < 0) = false := decide_eq_false c72
                              clear c72
                              by_cases c73 : t278 = t264
                              · rw [if_pos c73] at H
                                have c73b0 : (t278 == t264) = true := beq_iff_eq.mpr c73
                                have c73b1 : (t278 != t264) = false := bne_eq_false_iff_eq.mpr c73
                                clear c73
                                obtain rfl := Option.some.inj H
                                go_wp2_with (first | ((with_reducible refine gate_callee (f := 16) rfl ?_); refine goesL_ (some 103) rfl rfl Try.func16 (by kernel_rfl) rfl #[.slice Ao57 t265.length co57, .int .i64 1] rfl (by (try simp only [List.map_toArray, List.map_cons, List.map_nil]); first | done | rfl | (simp only [List.length_drop, List.length_take]; rfl)) ?_; (with_reducible refine (laws_heldInt64S.calls kj55 _ _ t265 1 t278 _ ?side1 ?side2 A71.out).mono ?_); (case side1 => repeat (first | exact (Kd.R_reads' HO_11.out).2.2 | (with_reducible refine Kd.C_alloc ?_ _) | (with_reducible refine Kd.C_drewN ?_ _) | (with_reducible refine Kd.C_drew ?_))); (case side2 => exact (Kd.R_reads' HO_11.out).2.1); rintro e w' ⟨rfl, ⟨nd, rfl⟩⟩; refine ⟨_, rfl, ?_⟩))
                                go_ret
                                exact ⟨by first | rfl | (simp [errW_none, errW_some] <;> rfl) | (simp [*, errW_none, errW_some] <;> rfl), by repeat (first | (with_reducible first | exact HB.out | apply below_alloc | apply pw_below_drewN | apply below_drew1 | refine below_set ?_ GE234.out) | exact HB.out)⟩
                              · rw [if_neg c73] at H
                                have c73b0 : (t278 == t264) = false := beq_eq_false_iff_ne.mpr c73
                                have c73b1 : (t278 != t264) = true := bne_iff_ne.mpr c73
                                exact absurd (Option.some.inj H) (by rw [hT_.out]; decide)
                    · rw [if_neg c52] at H
                      have c52b0 : (t266 == t264) = false := beq_eq_false_iff_ne.mpr c52
                      have c52b1 : (t266 != t264) = true := bne_iff_ne.mpr c52
                      exact absurd (Option.some.inj H) (by rw [hT_.out]; decide)
          · replace c34 := Bool.eq_false_iff.mpr c34
            subst c34
            have H1 : (some false) = some r := by rw [if_neg (show ¬ (false = true) by decide)] at H; exact H
            clear H
            have H := H1
            clear H1
            exact absurd (Option.some.inj H) (by rw [hT_.out]; decide)

end Go.Proofs.Ytldhgldknefjdaa.Q
