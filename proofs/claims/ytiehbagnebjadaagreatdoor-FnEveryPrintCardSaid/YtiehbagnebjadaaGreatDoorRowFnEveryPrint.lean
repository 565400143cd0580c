/- The row of the law FnEveryPrint: for every input the call returns true and every argument reads behind it as before; out of the plain law Pure.FnEveryPrint and the contract laws_FnEveryPrint.calls. No condition besides the statement's own. -/
import Derived.Test.YtiehbagnebjadaaGreatDoorRows
import Derived.Test.YtiehbagnebjadaaGreatDoorCards
import Derived.Test.YtiehbagnebjadaaGreatDoorTie
import Derived.Deep.DeepHandedRow
import Derived.Lib.LaidTab
import Derived.Lay
import Derived.MakeChecks
import Derived.LaidLaws
import Derived.Test.YtiehbagnebjadaaGreatDoorArrEvery
import Derived.Test.YtiehbagnebjadaaGreatDoorArrOpen
import Derived.WalkKit
import Derived.ProofKit
import Derived.OpenShut
import Derived.ShutString
import Derived.ChangeOld
import Derived.Below
import Derived.SizedLaws
import Derived.Lib.SmallJoins
import Derived.Deep.Slices
import Derived.Deep.Fields
import Derived.ChangeSame
import Derived.Test.YtiehbagnebjadaaGreatDoorWSized
namespace Go.Proofs.YtiehbagnebjadaaGreatDoor.fnEveryPrint
open Go.ChangeShapes Go.WideShapes Go.ChangeAt Go.RowKit Go.Joins Go.Deep Go.Proofs.YtiehbagnebjadaaGreatDoor.Q Go.Proofs.YtiehbagnebjadaaGreatDoorW.PrintWords Go.Proofs.YtiehbagnebjadaaGreatDoorW.PrintLast Go.Proofs.YtiehbagnebjadaaGreatDoorW.PrintMore
open Go.ChangeMaps (open_string shut_string)
set_option linter.unusedVariables false
set_option linter.unusedSimpArgs false
theorem own : ownKnob Tryz.prog.godebug = none := by kernel_rfl
theorem laidOut : laidOutB Tryz.prog = true := by kernel_rfl
theorem bd_i16 {n : Int} (h : (Lit.int .i16 n).wf = true) : -32768 ≤ n ∧ n ≤ 32767 := bounds_i16 h
theorem bd_i8 {n : Int} (h : (Lit.int .i8 n).wf = true) : -128 ≤ n ∧ n ≤ 127 := bounds_i8 h
theorem bd_u64 {n : Int} (h : (Lit.int .u64 n).wf = true) : 0 ≤ n ∧ n ≤ 18446744073709551615 := bounds_u64 h
section
variable {H : Type} {enc : TypeId × Value → H} {P : Program} {w : World} {base : Nat} {spare : Nat → Bool} {held : Bool}
theorem open_slice_fields {t e : TypeId} {fs : Array Field} {fuel : Nat} {cs : List Value} {x : DataW H × List MemPlace} (ht : P.underlying t = some (.slice e)) (he : P.underlying e = some (.struct fs))
    (hone : oneCellFields P fs = true) (hC : P.cellsOf e = fs.size) (h : DataW.trod enc P w base spare held fuel t cs = some x) :
    (cs = [.slice none 0 0] ∧ x = (.nil, [])) ∨
    ∃ (a : Addr) (len cap m : Nat) (D : Nat → DataW H) (Pl : Nat → List MemPlace), cs = [.slice (some a) len cap] ∧ base ≤ a.block ∧ len ≤ cap ∧ cap ≤ maxLen ∧ m = (if spare a.block then cap else len) ∧
      x = (.slice ((List.range len).map D) ((List.range (m - len)).map fun j => D (len + j)), MemPlace.row a (m * fs.size) ++ (List.range m).flatMap Pl) ∧
      ∀ i, i < m → ∃ (ys : List (DataW H × List MemPlace)) (n : Nat), D i = .agg (ys.map (·.1)) ∧ Pl i = ys.flatMap (·.2) ∧ ys.length = fs.size ∧
        ∀ (j : Nat) (f : Field), fs[j]? = some f → ∃ (v : Value) (y : DataW H × List MemPlace), w.cell? (a.add (i * fs.size + j)) = some v ∧ ys[j]? = some y ∧ DataW.trod enc P w base spare held n f.type [v] = some y := by
  rcases open_slice ht h with h0 | ⟨a, len, cap, m, n, D, Pl, hcs, hb, hl, hm, hmm, hx, hi⟩
  · exact .inl h0
  · refine .inr ⟨a, len, cap, m, D, Pl, hcs, hb, hl, hm, hmm, by rw [hC] at hx; exact hx, fun i him => ?_⟩
    obtain ⟨cs', hc, ht'⟩ := hi i him
    rw [hC] at hc
    obtain ⟨ys, n', hn', hy, hlen, hyl, hf⟩ := DataW.trod_struct he ht'
    obtain ⟨_, hcl, hat⟩ := World.cells?_some hc
    simp only [Prod.mk.injEq] at hy
    refine ⟨ys, n', hy.1, hy.2, hyl, fun j f hj => ?_⟩
    obtain ⟨ho, hk⟩ := hone_of hone j f hj
    have hjl : j < fs.size := (Array.getElem?_eq_some_iff.1 hj).1
    have hcell := hat j hjl
    have hv : cs'[j]? = some (cs'[j]'(by omega)) := List.getElem?_eq_getElem (by omega)
    have h1 := hf j f hj
    rw [ho, hk] at h1
    have hone' : (cs'.drop j).take 1 = [cs'[j]'(by omega)] := by
      rw [List.drop_eq_getElem_cons (by omega)]
      rfl
    rw [hone'] at h1
    have hys : ys[j]? = some (ys[j]'(by omega)) := List.getElem?_eq_getElem (by omega)
    refine ⟨_, _, ?_, hys, h1.trans hys⟩
    rw [← Go.Deep.add_add, hcell, hv]
end

def wargs : Array Value := #[.agg (List.replicate 64 (.int .i16 0 : Value)).toArray, .slice none 0 0, .slice none 0 0]
set_option maxRecDepth 100000 in
theorem tab10 {W : World} (h : laidMetH Tryz.prog Rows.fnEveryPrintRow.laid W) (qS : W.ShapedOpen Tryz.prog) : Tab10 W := by
  rw [MakeChecks.laidMetH_plain _ _ _ (by kernel_rfl)] at h
  obtain ⟨ps_, h1_, q1_, q2_⟩ := h
  obtain ⟨g0_, t0_, cs0_, fuel0_, p0_, q0_, hg0_, ht0_, hvar0_, hd0_, h1_, e0_⟩ := h1_
  obtain ⟨g1_, t1_, cs1_, fuel1_, p1_, q1_, hg1_, ht1_, hvar1_, hd1_, h1_, e1_⟩ := h1_
  obtain ⟨g2_, t2_, cs2_, fuel2_, p2_, q2_, hg2_, ht2_, hvar2_, hd2_, h1_, e2_⟩ := h1_
  obtain ⟨g3_, t3_, cs3_, fuel3_, p3_, q3_, hg3_, ht3_, hvar3_, hd3_, h1_, e3_⟩ := h1_
  obtain ⟨g4_, t4_, cs4_, fuel4_, p4_, q4_, hg4_, ht4_, hvar4_, hd4_, h1_, e4_⟩ := h1_
  obtain ⟨g5_, t5_, cs5_, fuel5_, p5_, q5_, hg5_, ht5_, hvar5_, hd5_, h1_, e5_⟩ := h1_
  obtain rfl := Option.some.inj ((show Tryz.prog.globalNamed "internal/strconv.uint64pow10" = some 3 by kernel_rfl).symm.trans hg2_)
  obtain rfl := Option.some.inj ((show (Tryz.prog.globals[3]?).map (·.type) = some 237 by kernel_rfl).symm.trans ht2_)
  have T2_ : Lib.TabIs Tryz.prog W "internal/strconv.uint64pow10" .u64 Lib.pow10Tab := by
    show W.var? Tryz.prog "internal/strconv.uint64pow10" = _
    rw [hvar2_, ← Lib.cells_of_tab (k := .u64) (zs := Lib.pow10Tab) Tryz.underlying237 Tryz.underlying85 (by kernel_rfl) (by kernel_rfl) hd2_]
  obtain rfl := Option.some.inj ((show Tryz.prog.globalNamed "math/bits.deBruijn64tab" = some 7 by kernel_rfl).symm.trans hg1_)
  obtain rfl := Option.some.inj ((show (Tryz.prog.globals[7]?).map (·.type) = some 250 by kernel_rfl).symm.trans ht1_)
  have T1_ : Lib.TabIs Tryz.prog W "math/bits.deBruijn64tab" .u8 [0, 1, 56, 2, 57, 49, 28, 3, 61, 58, 42, 50, 38, 29, 17, 4, 62, 47, 59, 36, 45, 43, 51, 22, 53, 39, 33, 30, 24, 18, 12, 5, 63, 55, 48, 27, 60, 41, 37, 16, 46, 35, 44, 21, 52, 32, 23, 11, 54, 26, 40, 15, 34, 20, 31, 10, 25, 14, 19, 9, 13, 8, 7, 6] := by
    show W.var? Tryz.prog "math/bits.deBruijn64tab" = _
    rw [hvar1_, ← Lib.cells_of_tab (k := .u8) (zs := [0, 1, 56, 2, 57, 49, 28, 3, 61, 58, 42, 50, 38, 29, 17, 4, 62, 47, 59, 36, 45, 43, 51, 22, 53, 39, 33, 30, 24, 18, 12, 5, 63, 55, 48, 27, 60, 41, 37, 16, 46, 35, 44, 21, 52, 32, 23, 11, 54, 26, 40, 15, 34, 20, 31, 10, 25, 14, 19, 9, 13, 8, 7, 6]) Tryz.underlying250 Tryz.underlying5 (by kernel_rfl) (by kernel_rfl) hd1_]
  obtain rfl := Option.some.inj ((show Tryz.prog.globalNamed "strconv.ErrSyntax" = some 1 by kernel_rfl).symm.trans hg5_)
  obtain rfl := Option.some.inj ((show (Tryz.prog.globals[1]?).map (·.type) = some 109 by kernel_rfl).symm.trans ht5_)
  have I5_ : ∃ ev, W.cell? ⟨1, 0, none⟩ = some ev ∧ (ev = .nilIface ∨ ∃ te pe, ev = .iface te pe) := by
    obtain ⟨f1_, u_, v_, ec_, _, _⟩ := iface_of_trod Tryz.underlying109 hd5_
    exact ⟨_, (World.var?_cell hg5_ hvar5_ 0).trans (by have h0_ := congrArg (fun l_ : List Value => l_[0]?) ec_; simpa using h0_), Or.inr ⟨u_, v_, rfl⟩⟩
  obtain rfl := Option.some.inj ((show Tryz.prog.globalNamed "strconv.ErrRange" = some 2 by kernel_rfl).symm.trans hg4_)
  obtain rfl := Option.some.inj ((show (Tryz.prog.globals[2]?).map (·.type) = some 109 by kernel_rfl).symm.trans ht4_)
  have I4_ : ∃ ev, W.cell? ⟨2, 0, none⟩ = some ev ∧ (ev = .nilIface ∨ ∃ te pe, ev = .iface te pe) := by
    obtain ⟨f1_, u_, v_, ec_, _, _⟩ := iface_of_trod Tryz.underlying109 hd4_
    exact ⟨_, (World.var?_cell hg4_ hvar4_ 0).trans (by have h0_ := congrArg (fun l_ : List Value => l_[0]?) ec_; simpa using h0_), Or.inr ⟨u_, v_, rfl⟩⟩
  exact ⟨T2_, T1_.cell (show Tryz.prog.globalNamed "math/bits.deBruijn64tab" = some 7 by kernel_rfl) 15 (by decide), Tryz.lays147.s1_3 W qS, I5_, I4_⟩
noncomputable def laidWorld (os : Os) : World := World.laidAll Tryz.prog os Rows.fnEveryPrintRow.laid
set_option maxRecDepth 100000 in
theorem laid_met (os : Os) : laidMetH Tryz.prog Rows.fnEveryPrintRow.laid ((laidWorld os).forCall (fun _ _ => 0) ⟨#[], wargs, []⟩).memory := by
  rw [MakeChecks.laidMetH_plain _ _ _ (by kernel_rfl)]
  exact laidMet_laidAll _ (by kernel_rfl) (by kernel_rfl)
set_option maxRecDepth 100000 in
theorem reads (os : Os) {H : Type} (enc : TypeId × Value → H) : ∃ places, DataW.whole enc Tryz.prog ((laidWorld os).forCall (fun _ _ => 0) ⟨#[], wargs, []⟩).memory Tryz.f6.params.toList Rows.fnEveryPrintSpec.vars false wargs.toList 8 = some ([.agg [.lit (.int .i16 0), .lit (.int .i16 0), .lit (.int .i16 0), .lit (.int .i16 0), .lit (.int .i16 0), .lit (.int .i16 0), .lit (.int .i16 0), .lit (.int .i16 0), .lit (.int .i16 0), .lit (.int .i16 0), .lit (.int .i16 0), .lit (.int .i16 0), .lit (.int .i16 0), .lit (.int .i16 0), .lit (.int .i16 0), .lit (.int .i16 0), .lit (.int .i16 0), .lit (.int .i16 0), .lit (.int .i16 0), .lit (.int .i16 0), .lit (.int .i16 0), .lit (.int .i16 0), .lit (.int .i16 0), .lit (.int .i16 0), .lit (.int .i16 0), .lit (.int .i16 0), .lit (.int .i16 0), .lit (.int .i16 0), .lit (.int .i16 0), .lit (.int .i16 0), .lit (.int .i16 0), .lit (.int .i16 0), .lit (.int .i16 0), .lit (.int .i16 0), .lit (.int .i16 0), .lit (.int .i16 0), .lit (.int .i16 0), .lit (.int .i16 0), .lit (.int .i16 0), .lit (.int .i16 0), .lit (.int .i16 0), .lit (.int .i16 0), .lit (.int .i16 0), .lit (.int .i16 0), .lit (.int .i16 0), .lit (.int .i16 0), .lit (.int .i16 0), .lit (.int .i16 0), .lit (.int .i16 0), .lit (.int .i16 0), .lit (.int .i16 0), .lit (.int .i16 0), .lit (.int .i16 0), .lit (.int .i16 0), .lit (.int .i16 0), .lit (.int .i16 0), .lit (.int .i16 0), .lit (.int .i16 0), .lit (.int .i16 0), .lit (.int .i16 0), .lit (.int .i16 0), .lit (.int .i16 0), .lit (.int .i16 0), .lit (.int .i16 0)], .nil, .nil], [], places) :=
  ⟨[], by kernel_rfl⟩
set_option maxRecDepth 100000 in
set_option maxHeartbeats 1000000 in
theorem lifted (os : Os) (started : os.Started) (H : Type) (enc : TypeId × Value → H) (F : Stop.Interp) :
    ReturnsInHanded {} Tryz.checked os 6 .any ((OpenSpec.ofChange Rows.fnEveryPrintSpec).preRow enc Tryz.prog Tryz.f6 Rows.fnEveryPrintRow.domain false Rows.fnEveryPrintRow.laid) (((OpenSpec.ofChange Rows.fnEveryPrintSpec).at F).post enc Tryz.prog Tryz.f6 false true false false) := by
  obtain ⟨places, hx⟩ := reads os enc
  refine returnsInHanded_of_row (C := Tryz.checked) (s := OpenSpec.ofChange Rows.fnEveryPrintSpec) own started (by kernel_rfl) Tryz.func6
    ⟨laidWorld os, fun _ _ => 0, ⟨#[], wargs, []⟩, World.laidAll_os _ _ _, World.shaped_of_ZipB (by kernel_rfl) (by kernel_rfl), rfl, (Input.okWide_of_okWideB (by kernel_rfl)).2,
      (OpenSpec.preRow_of_cond 8 hx (by kernel_rfl) (fun k hk => by cases hk) (by kernel_rfl) (laid_met os)), by simp [Assume.holds]⟩ ?_
  intro W base args ds gs before hval0 hW q1_ hsz0 q2_ hL q3_ q4_
  have hsz : (DataW.weightsEach Tryz.prog (Tryz.f6.params.toList ++ Rows.fnEveryPrintSpec.plain.varTypes Tryz.prog) (ds ++ gs)).all (· ≤ reachBytes) = true := by first | exact hsz0 | exact q1_ | exact q2_ | exact q3_ | exact q4_
  have hval : ∀ (j : Nat) t v, Tryz.f6.params[j]? = some t → args[j]? = some v → Value.okWide Tryz.prog W .any base t v := hval0
  have hW' := hW
  obtain ⟨p, q, hA0, hV, rfl, hfz, hnd⟩ := hW
  have hA : DataW.TrodAll enc Tryz.prog W 0 (fun _ => true) true Tryz.f6.params.toList args.toList ds p := hA0
  rw [Tryz.params6] at hA hval hsz
  obtain ⟨v0, vs0, d0, ds0, p0, q0, hargs, rfl, rfl, h0, r0⟩ := trodAll_cons hA
  obtain ⟨v1, vs1, d1, ds1, p1, q1, rfl, rfl, rfl, h1, r1⟩ := trodAll_cons r0
  obtain ⟨v2, vs2, d2, ds2, p2, q2, rfl, rfl, rfl, h2, r2⟩ := trodAll_cons r1
  obtain ⟨rfl, rfl, rfl⟩ := trodAll_nil r2
  obtain rfl : args = #[v0, v1, v2] := by cases args; simp_all
  obtain ⟨rfl, rfl⟩ := trodVars_none hV
  have k0 := h0
  have lt0 : ∀ x ∈ p0, x.block < W.heap.size := by obtain ⟨m, hm⟩ := k0; exact DataW.trod_lt m _ _ _ hm
  obtain ⟨l0, rfl, hl0, hw0⟩ := open_arr (k := .i16) (e := 32) (n := 64) Tryz.underlying37 Tryz.underlying32 (by kernel_rfl) (by kernel_rfl) (hval 0 37 v0 rfl rfl) h0
  have k1 := h1
  have lt1 : ∀ x ∈ p1, x.block < W.heap.size := by obtain ⟨m, hm⟩ := k1; exact DataW.trod_lt m _ _ _ hm
  obtain ⟨a1, len1, cap1, rfl⟩ := okWide_slice Tryz.underlying23 (hval 1 23 v1 rfl rfl)
  have yy1 : len1 * 4 ≤ 140737488351232 := by
    obtain ⟨fuel, hf⟩ := h1
    rcases open_slice Tryz.underlying23 hf with ⟨hcs, _⟩ | ⟨x, l, c, mm, n_, D_, Pl, hcs, _, hl, hm, hmm, hx, _⟩
    · simp [Value.cells] at hcs
      obtain ⟨rfl, rfl, rfl⟩ := hcs
      simp
    · simp [Value.cells] at hcs
      obtain ⟨rfl, rfl, rfl⟩ := hcs
      obtain ⟨hx, _⟩ := Prod.mk.inj hx
      have z := sized_slice hsz (j := 1) (t := 23) rfl (by rw [hx]; rfl) Tryz.underlying23
      have hB : Tryz.prog.bytesOf 116 = 4 := by kernel_rfl
      rw [hB] at z
      have hl2 : len1 ≤ mm := by
        rw [hmm]
        split
        · exact hl
        · exact Nat.le_refl _
      simp only [List.length_map, List.length_range] at z
      exact Nat.le_trans (Nat.mul_le_mul_right 4 (by omega : len1 ≤ len1 + (mm - len1))) z
  obtain ⟨l1, rfl, hr1, hw1, hc1⟩ : ∃ l : List S116, l.length = len1 ∧ Kd.C k116 W a1 len1 l ∧ (∀ x ∈ l, -32768 ≤ x.f0 ∧ x.f0 ≤ 32767 ∧ -32768 ≤ x.f1 ∧ x.f1 ≤ 32767) ∧ len1 ≤ cap1 := by
    obtain ⟨fuel, hf⟩ := h1
    rcases open_slice_fields Tryz.underlying23 Tryz.underlying116 (by kernel_rfl) (by kernel_rfl) hf with ⟨hcs, _⟩ | ⟨x, l, c, mm, D_, Pl, hcs, _, hl, hm, hmm, _, hf_⟩
    · simp [Value.cells] at hcs
      obtain ⟨rfl, rfl, rfl⟩ := hcs
      exact ⟨[], rfl, ⟨rfl, by simp [maxLen], fun h => absurd h (by simp)⟩, by simp, Nat.le_refl _⟩
    · simp [Value.cells] at hcs
      obtain ⟨rfl, rfl, rfl⟩ := hcs
      have hlm : len1 ≤ mm := by
        rw [hmm]
        split
        · exact hl
        · exact Nat.le_refl _
      have hel : ∀ j, j < len1 → ∃ y : S116, (∀ q u, ([.int .i16 y.f0, .int .i16 y.f1] : List Value)[q]? = some u → W.cell? (x.add (j * 2 + q)) = some u) ∧ (-32768 ≤ y.f0 ∧ y.f0 ≤ 32767) ∧ (-32768 ≤ y.f1 ∧ y.f1 ≤ 32767) := by
        intro j hj
        obtain ⟨ys, n_, _, _, _, hq⟩ := hf_ j (by omega)
        obtain ⟨u0, y0, hcell0, _, ht0⟩ := hq 0 _ rfl
        obtain ⟨b0, e0, _, w0⟩ := DataW.trod_int Tryz.underlying32 ht0
        obtain rfl : u0 = .int .i16 b0 := by simpa using e0
        obtain ⟨u1, y1, hcell1, _, ht1⟩ := hq 1 _ rfl
        obtain ⟨b1, e1, _, w1⟩ := DataW.trod_int Tryz.underlying32 ht1
        obtain rfl : u1 = .int .i16 b1 := by simpa using e1
        refine ⟨⟨b0, b1⟩, ?_, bd_i16 w0, bd_i16 w1⟩
        intro q u hu
        match q, hu with
        | 0, hu => cases hu; exact hcell0
        | 1, hu => cases hu; exact hcell1
        | (q + 2), hu => simp at hu
      obtain ⟨F_, hF⟩ : ∃ F_ : Nat → S116, ∀ j, j < len1 → (∀ q u, ([.int .i16 (F_ j).f0, .int .i16 (F_ j).f1] : List Value)[q]? = some u → W.cell? (x.add (j * 2 + q)) = some u) ∧ (-32768 ≤ (F_ j).f0 ∧ (F_ j).f0 ≤ 32767) ∧ (-32768 ≤ (F_ j).f1 ∧ (F_ j).f1 ≤ 32767) := by
        refine ⟨fun j => if h : j < len1 then Classical.choose (hel j h) else z116, fun j h => ?_⟩
        simp only [dif_pos h]
        exact Classical.choose_spec (hel j h)
      refine ⟨(List.range len1).map F_, by simp, ⟨by simp, by simp only [maxLen] at hm; omega, fun _ => ⟨x, rfl, ?_⟩⟩, ?_, hl⟩
      · intro j y hy
        simp only [List.getElem?_map, Option.map_eq_some_iff] at hy
        obtain ⟨j', hj', rfl⟩ := hy
        obtain ⟨hlt, rfl⟩ : j < len1 ∧ j = j' := by
          rw [List.getElem?_eq_some_iff] at hj'
          obtain ⟨h1, h2⟩ := hj'
          simp at h1 h2
          exact ⟨h1, h2⟩
        refine ⟨_, rfl, k116_mk W (F_ j), fun q u hu => ?_⟩
        exact (hF j hlt).1 q u hu
      · intro y hy
        simp only [List.mem_map, List.mem_range] at hy
        obtain ⟨j, hj, rfl⟩ := hy
        have := (hF j hj).2
        omega
  have k2 := h2
  have lt2 : ∀ x ∈ p2, x.block < W.heap.size := by obtain ⟨m, hm⟩ := k2; exact DataW.trod_lt m _ _ _ hm
  obtain ⟨a2, len2, cap2, rfl⟩ := okWide_slice Tryz.underlying24 (hval 2 24 v2 rfl rfl)
  have yy2 : len2 * 16 ≤ 140737488351232 := by
    obtain ⟨fuel, hf⟩ := h2
    rcases open_slice Tryz.underlying24 hf with ⟨hcs, _⟩ | ⟨x, l, c, mm, n_, D_, Pl, hcs, _, hl, hm, hmm, hx, _⟩
    · simp [Value.cells] at hcs
      obtain ⟨rfl, rfl, rfl⟩ := hcs
      simp
    · simp [Value.cells] at hcs
      obtain ⟨rfl, rfl, rfl⟩ := hcs
      obtain ⟨hx, _⟩ := Prod.mk.inj hx
      have z := sized_slice hsz (j := 2) (t := 24) rfl (by rw [hx]; rfl) Tryz.underlying24
      have hB : Tryz.prog.bytesOf 89 = 16 := by kernel_rfl
      rw [hB] at z
      have hl2 : len2 ≤ mm := by
        rw [hmm]
        split
        · exact hl
        · exact Nat.le_refl _
      simp only [List.length_map, List.length_range] at z
      exact Nat.le_trans (Nat.mul_le_mul_right 16 (by omega : len2 ≤ len2 + (mm - len2))) z
  obtain ⟨l2, rfl, hr2, hw2, hc2⟩ : ∃ l : List S89, l.length = len2 ∧ Kd.C k89 W a2 len2 l ∧ (∀ x ∈ l, 0 ≤ x.f0 ∧ x.f0 ≤ 18446744073709551615 ∧ -128 ≤ x.f1 ∧ x.f1 ≤ 127) ∧ len2 ≤ cap2 := by
    obtain ⟨fuel, hf⟩ := h2
    rcases open_slice_fields Tryz.underlying24 Tryz.underlying89 (by kernel_rfl) (by kernel_rfl) hf with ⟨hcs, _⟩ | ⟨x, l, c, mm, D_, Pl, hcs, _, hl, hm, hmm, _, hf_⟩
    · simp [Value.cells] at hcs
      obtain ⟨rfl, rfl, rfl⟩ := hcs
      exact ⟨[], rfl, ⟨rfl, by simp [maxLen], fun h => absurd h (by simp)⟩, by simp, Nat.le_refl _⟩
    · simp [Value.cells] at hcs
      obtain ⟨rfl, rfl, rfl⟩ := hcs
      have hlm : len2 ≤ mm := by
        rw [hmm]
        split
        · exact hl
        · exact Nat.le_refl _
      have hel : ∀ j, j < len2 → ∃ y : S89, (∀ q u, ([.int .u64 y.f0, .int .i8 y.f1] : List Value)[q]? = some u → W.cell? (x.add (j * 2 + q)) = some u) ∧ (0 ≤ y.f0 ∧ y.f0 ≤ 18446744073709551615) ∧ (-128 ≤ y.f1 ∧ y.f1 ≤ 127) := by
        intro j hj
        obtain ⟨ys, n_, _, _, _, hq⟩ := hf_ j (by omega)
        obtain ⟨u0, y0, hcell0, _, ht0⟩ := hq 0 _ rfl
        obtain ⟨b0, e0, _, w0⟩ := DataW.trod_int Tryz.underlying85 ht0
        obtain rfl : u0 = .int .u64 b0 := by simpa using e0
        obtain ⟨u1, y1, hcell1, _, ht1⟩ := hq 1 _ rfl
        obtain ⟨b1, e1, _, w1⟩ := DataW.trod_int Tryz.underlying43 ht1
        obtain rfl : u1 = .int .i8 b1 := by simpa using e1
        refine ⟨⟨b0, b1⟩, ?_, bd_u64 w0, bd_i8 w1⟩
        intro q u hu
        match q, hu with
        | 0, hu => cases hu; exact hcell0
        | 1, hu => cases hu; exact hcell1
        | (q + 2), hu => simp at hu
      obtain ⟨F_, hF⟩ : ∃ F_ : Nat → S89, ∀ j, j < len2 → (∀ q u, ([.int .u64 (F_ j).f0, .int .i8 (F_ j).f1] : List Value)[q]? = some u → W.cell? (x.add (j * 2 + q)) = some u) ∧ (0 ≤ (F_ j).f0 ∧ (F_ j).f0 ≤ 18446744073709551615) ∧ (-128 ≤ (F_ j).f1 ∧ (F_ j).f1 ≤ 127) := by
        refine ⟨fun j => if h : j < len2 then Classical.choose (hel j h) else z89, fun j h => ?_⟩
        simp only [dif_pos h]
        exact Classical.choose_spec (hel j h)
      refine ⟨(List.range len2).map F_, by simp, ⟨by simp, by simp only [maxLen] at hm; omega, fun _ => ⟨x, rfl, ?_⟩⟩, ?_, hl⟩
      · intro j y hy
        simp only [List.getElem?_map, Option.map_eq_some_iff] at hy
        obtain ⟨j', hj', rfl⟩ := hy
        obtain ⟨hlt, rfl⟩ : j < len2 ∧ j = j' := by
          rw [List.getElem?_eq_some_iff] at hj'
          obtain ⟨h1, h2⟩ := hj'
          simp at h1 h2
          exact ⟨h1, h2⟩
        refine ⟨_, rfl, k89_mk W (F_ j), fun q u hu => ?_⟩
        exact (hF j hlt).1 q u hu
      · intro y hy
        simp only [List.mem_map, List.mem_range] at hy
        obtain ⟨j, hj, rfl⟩ := hy
        have := (hF j hj).2
        omega
  clear hA0 hval0 hsz0 hsz
  refine (laws_FnEveryPrint.arr (w := W) l0 hl0 (fun x hx => bd_i16 (hw0 x hx)) _ _ l1 hr1 hc1 hw1 yy1 _ _ l2 hr2 hc2 hw2 yy2 (tab10 hL q3_)).mono fun e W' ⟨he, bel0⟩ => ?_
  have bel : Below W.heap.size W W' := bel0
  subst he
  exact ⟨_, rfl, _, _, _, [], _, [], hW', trodAll_mk1 (shut_bool Tryz.underlying4 _), (trodAll_cons_mk (Below.trod laidOut (by kernel_rfl) (of_decide_eq_true (by kernel_rfl)) k0 bel lt0) (trodAll_cons_mk (Below.trod laidOut (by kernel_rfl) (of_decide_eq_true (by kernel_rfl)) k1 bel lt1) (trodAll_cons_mk (Below.trod laidOut (by kernel_rfl) (of_decide_eq_true (by kernel_rfl)) k2 bel lt2) trodAll_mk0))), rfl, bel.frame _, fun h => by cases h⟩
theorem over : Rows.fnEveryPrintRow.holds Tryz.pinned (OpenSpec.ofChange Rows.fnEveryPrintSpec) :=
  OpenClaim.holds_of_cond 6 Tryz.f6 rfl rfl rfl rfl rfl rfl rfl ⟨rfl, rfl, rfl, rfl, rfl⟩ rfl rfl rfl rfl rfl (by kernel_rfl) Tryz.func6 (by kernel_rfl)
    (of_decide_eq_true (by kernel_rfl)) (by unfold Func.isWrapper; first | (rw [if_pos (by decide +kernel)]; kernel_rfl) | (rw [if_neg (by decide +kernel)]; exact ⟨rfl, rfl⟩))
    (fun os started H enc _ F => by rw [OpenClaim.pre_eq_preRow]; exact lifted os started H enc F)
set_option maxRecDepth 100000 in
theorem plain (f : FuncId) (fn : Func) (hf : Tryz.pinned.checked.prog.funcNamed "loop.example/g01301/laws.FnEveryPrint" = some f) (hfn : Tryz.pinned.checked.prog.funcs[f]? = some fn) :
    true = Tryz.pinned.checked.prog.looks [] ∧ ∀ (j : Nat) t, fn.params[j]? = some t → Tryz.pinned.checked.prog.wantsStandIn t = false := by
  obtain rfl : f = 6 := Option.some.inj ((show Tryz.prog.funcNamed "loop.example/g01301/laws.FnEveryPrint" = some 6 by kernel_rfl).symm.trans hf) |>.symm
  obtain rfl : fn = Tryz.f6 := (Option.some.inj (Tryz.func6.symm.trans hfn)).symm
  refine ⟨by kernel_rfl, fun j t ht => ?_⟩
  have h := Array.mem_of_getElem? ht
  exact (show ∀ t ∈ Tryz.f6.params, Tryz.prog.wantsStandIn t = false by rw [Tryz.params6]; intro t ht; simp only [List.mem_toArray, List.mem_cons, List.not_mem_nil, or_false] at ht; (repeat' (rcases ht with rfl | ht)) <;> first | kernel_rfl | (subst ht; kernel_rfl)) t h
theorem proved : Rows.FnEveryPrintCardSaid :=
  Claim7.holds_tied_plain_at .later [] _ _ _ _ over (fun _ h => by cases h) (by kernel_rfl) (fun _ h => by cases h) fnEveryPrint_row_tie rfl ⟨rfl, rfl⟩ (by kernel_rfl) rfl plain (by kernel_rfl)
end Go.Proofs.YtiehbagnebjadaaGreatDoor.fnEveryPrint
namespace Go.Proofs.YtiehbagnebjadaaGreatDoor
/-- The row, under a short name, for the claim. -/
theorem fnEveryPrint_holds : Rows.FnEveryPrintCardSaid := fnEveryPrint.proved
#print axioms fnEveryPrint_holds
end Go.Proofs.YtiehbagnebjadaaGreatDoor
