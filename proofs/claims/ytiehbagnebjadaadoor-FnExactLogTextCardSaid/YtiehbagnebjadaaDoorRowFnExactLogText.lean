/- The row of the law FnExactLogText: for every input the call returns true and every argument reads behind it as before; out of the plain law Pure.FnExactLogText and the contract laws_FnExactLogText.calls. No condition besides the statement's own. -/
import Derived.Test.YtiehbagnebjadaaDoorRows
import Derived.Test.YtiehbagnebjadaaDoorCards
import Derived.Test.YtiehbagnebjadaaDoorTie
import Derived.Deep.DeepHandedRow
import Derived.Lib.LaidTab
import Derived.Test.YtiehbagnebjadaaDoorQx10
import Derived.Test.YtiehbagnebjadaaDoorPureFnExactLogText
import Derived.WalkKit
import Derived.ProofKit
import Derived.OpenShut
import Derived.ShutString
import Derived.ChangeOld
import Derived.Below
import Derived.SizedLaws
import Derived.Lib.SmallJoins
import Derived.Deep.Slices
import Derived.Deep.Fields
import Derived.ChangeSame
import Derived.Test.YtiehbagnebjadaaDoorWSized
namespace Go.Proofs.YtiehbagnebjadaaDoor.fnExactLogText
open Go.ChangeShapes Go.WideShapes Go.ChangeAt Go.RowKit Go.Joins Go.Deep Go.Proofs.YtiehbagnebjadaaDoor.Q Go.Proofs.YtiehbagnebjadaaDoorW.PrintWords Go.Proofs.YtiehbagnebjadaaDoorW.PrintLast Go.Proofs.YtiehbagnebjadaaDoorW.PrintMore
open Go.ChangeMaps (open_string shut_string)
set_option linter.unusedVariables false
set_option linter.unusedSimpArgs false
theorem own : ownKnob Tryd.prog.godebug = none := by kernel_rfl
theorem laidOut : laidOutB Tryd.prog = true := by kernel_rfl
theorem bd_i16 {n : Int} (h : (Lit.int .i16 n).wf = true) : -32768 ≤ n ∧ n ≤ 32767 := bounds_i16 h
theorem bd_i8 {n : Int} (h : (Lit.int .i8 n).wf = true) : -128 ≤ n ∧ n ≤ 127 := bounds_i8 h
theorem bd_u64 {n : Int} (h : (Lit.int .u64 n).wf = true) : 0 ≤ n ∧ n ≤ 18446744073709551615 := bounds_u64 h
section
variable {H : Type} {enc : TypeId × Value → H} {P : Program} {w : World} {base : Nat} {spare : Nat → Bool} {held : Bool}
theorem open_slice_fields {t e : TypeId} {fs : Array Field} {fuel : Nat} {cs : List Value} {x : DataW H × List MemPlace} (ht : P.underlying t = some (.slice e)) (he : P.underlying e = some (.struct fs))
    (hone : oneCellFields P fs = true) (hC : P.cellsOf e = fs.size) (h : DataW.trod enc P w base spare held fuel t cs = some x) :
    (cs = [.slice none 0 0] ∧ x = (.nil, [])) ∨
    ∃ (a : Addr) (len cap m : Nat) (D : Nat → DataW H) (Pl : Nat → List MemPlace), cs = [.slice (some a) len cap] ∧ base ≤ a.block ∧ len ≤ cap ∧ cap ≤ maxLen ∧ m = (if spare a.block then cap else len) ∧
      x = (.slice ((List.range len).map D) ((List.range (m - len)).map fun j => D (len + j)), MemPlace.row a (m * fs.size) ++ (List.range m).flatMap Pl) ∧
      ∀ i, i < m → ∃ (ys : List (DataW H × List MemPlace)) (n : Nat), D i = .agg (ys.map (·.1)) ∧ Pl i = ys.flatMap (·.2) ∧ ys.length = fs.size ∧
        ∀ (j : Nat) (f : Field), fs[j]? = some f → ∃ (v : Value) (y : DataW H × List MemPlace), w.cell? (a.add (i * fs.size + j)) = some v ∧ ys[j]? = some y ∧ DataW.trod enc P w base spare held n f.type [v] = some y := by
  rcases open_slice ht h with h0 | ⟨a, len, cap, m, n, D, Pl, hcs, hb, hl, hm, hmm, hx, hi⟩
  · exact .inl h0
  · refine .inr ⟨a, len, cap, m, D, Pl, hcs, hb, hl, hm, hmm, by rw [hC] at hx; exact hx, fun i him => ?_⟩
    obtain ⟨cs', hc, ht'⟩ := hi i him
    rw [hC] at hc
    obtain ⟨ys, n', hn', hy, hlen, hyl, hf⟩ := DataW.trod_struct he ht'
    obtain ⟨_, hcl, hat⟩ := World.cells?_some hc
    simp only [Prod.mk.injEq] at hy
    refine ⟨ys, n', hy.1, hy.2, hyl, fun j f hj => ?_⟩
    obtain ⟨ho, hk⟩ := hone_of hone j f hj
    have hjl : j < fs.size := (Array.getElem?_eq_some_iff.1 hj).1
    have hcell := hat j hjl
    have hv : cs'[j]? = some (cs'[j]'(by omega)) := List.getElem?_eq_getElem (by omega)
    have h1 := hf j f hj
    rw [ho, hk] at h1
    have hone' : (cs'.drop j).take 1 = [cs'[j]'(by omega)] := by
      rw [List.drop_eq_getElem_cons (by omega)]
      rfl
    rw [hone'] at h1
    have hys : ys[j]? = some (ys[j]'(by omega)) := List.getElem?_eq_getElem (by omega)
    refine ⟨_, _, ?_, hys, h1.trans hys⟩
    rw [← Go.Deep.add_add, hcell, hv]
end

theorem gl0 : Tryd.prog.globalNamed "math/bits.deBruijn32tab" = some 6 := by kernel_rfl
theorem gl1 : Tryd.prog.globalNamed "math/bits.deBruijn64tab" = some 7 := by kernel_rfl
theorem gl2 : Tryd.prog.globalNamed "internal/strconv.uint64pow10" = some 3 := by kernel_rfl
set_option maxRecDepth 100000 in
theorem tab10 {W : World} (h : laidMetH Tryd.prog Rows.fnExactLogTextRow.laid W) : Tab10 W := by
  obtain ⟨ps_, h1_, q1_, q2_⟩ := (show laidMet Tryd.prog Rows.fnExactLogTextRow.laid W from h)
  obtain ⟨g0_, t0_, cs0_, fuel0_, p0_, q0_, hg0_, ht0_, hvar0_, hd0_, h1_, e0_⟩ := h1_
  obtain ⟨g1_, t1_, cs1_, fuel1_, p1_, q1_, hg1_, ht1_, hvar1_, hd1_, h1_, e1_⟩ := h1_
  obtain ⟨g2_, t2_, cs2_, fuel2_, p2_, q2_, hg2_, ht2_, hvar2_, hd2_, h1_, e2_⟩ := h1_
  obtain rfl := Option.some.inj ((show Tryd.prog.globalNamed "internal/strconv.uint64pow10" = some 3 by kernel_rfl).symm.trans hg2_)
  obtain rfl := Option.some.inj ((show (Tryd.prog.globals[3]?).map (·.type) = some 150 by kernel_rfl).symm.trans ht2_)
  have T2_ : Lib.TabIs Tryd.prog W "internal/strconv.uint64pow10" .u64 Lib.pow10Tab := by
    show W.var? Tryd.prog "internal/strconv.uint64pow10" = _
    rw [hvar2_, ← Lib.cells_of_tab (k := .u64) (zs := Lib.pow10Tab) Tryd.underlying150 Tryd.underlying67 (by kernel_rfl) (by kernel_rfl) hd2_]
  obtain rfl := Option.some.inj ((show Tryd.prog.globalNamed "math/bits.deBruijn64tab" = some 7 by kernel_rfl).symm.trans hg1_)
  obtain rfl := Option.some.inj ((show (Tryd.prog.globals[7]?).map (·.type) = some 167 by kernel_rfl).symm.trans ht1_)
  have T1_ : Lib.TabIs Tryd.prog W "math/bits.deBruijn64tab" .u8 [0, 1, 56, 2, 57, 49, 28, 3, 61, 58, 42, 50, 38, 29, 17, 4, 62, 47, 59, 36, 45, 43, 51, 22, 53, 39, 33, 30, 24, 18, 12, 5, 63, 55, 48, 27, 60, 41, 37, 16, 46, 35, 44, 21, 52, 32, 23, 11, 54, 26, 40, 15, 34, 20, 31, 10, 25, 14, 19, 9, 13, 8, 7, 6] := by
    show W.var? Tryd.prog "math/bits.deBruijn64tab" = _
    rw [hvar1_, ← Lib.cells_of_tab (k := .u8) (zs := [0, 1, 56, 2, 57, 49, 28, 3, 61, 58, 42, 50, 38, 29, 17, 4, 62, 47, 59, 36, 45, 43, 51, 22, 53, 39, 33, 30, 24, 18, 12, 5, 63, 55, 48, 27, 60, 41, 37, 16, 46, 35, 44, 21, 52, 32, 23, 11, 54, 26, 40, 15, 34, 20, 31, 10, 25, 14, 19, 9, 13, 8, 7, 6]) Tryd.underlying167 Tryd.underlying5 (by kernel_rfl) (by kernel_rfl) hd1_]
  exact ⟨T2_, T1_.cell (show Tryd.prog.globalNamed "math/bits.deBruijn64tab" = some 7 by kernel_rfl) 15 (by decide)⟩
noncomputable def laidWorld (os : Os) : World :=
  { World.holding Tryd.prog os ⟨#[], #[], []⟩ with heap := ((((World.holding Tryd.prog os ⟨#[], #[], []⟩).heap.modify 6 fun
    | .cells _ t frozen => .cells #[.int .u8 0, .int .u8 1, .int .u8 28, .int .u8 2, .int .u8 29, .int .u8 14, .int .u8 24, .int .u8 3, .int .u8 30, .int .u8 22, .int .u8 20, .int .u8 15, .int .u8 25, .int .u8 17, .int .u8 4, .int .u8 8, .int .u8 31, .int .u8 27, .int .u8 13, .int .u8 23, .int .u8 21, .int .u8 19, .int .u8 16, .int .u8 7, .int .u8 26, .int .u8 12, .int .u8 18, .int .u8 6, .int .u8 11, .int .u8 5, .int .u8 10, .int .u8 9] t frozen
    | o => o).modify 7 fun
    | .cells _ t frozen => .cells #[.int .u8 0, .int .u8 1, .int .u8 56, .int .u8 2, .int .u8 57, .int .u8 49, .int .u8 28, .int .u8 3, .int .u8 61, .int .u8 58, .int .u8 42, .int .u8 50, .int .u8 38, .int .u8 29, .int .u8 17, .int .u8 4, .int .u8 62, .int .u8 47, .int .u8 59, .int .u8 36, .int .u8 45, .int .u8 43, .int .u8 51, .int .u8 22, .int .u8 53, .int .u8 39, .int .u8 33, .int .u8 30, .int .u8 24, .int .u8 18, .int .u8 12, .int .u8 5, .int .u8 63, .int .u8 55, .int .u8 48, .int .u8 27, .int .u8 60, .int .u8 41, .int .u8 37, .int .u8 16, .int .u8 46, .int .u8 35, .int .u8 44, .int .u8 21, .int .u8 52, .int .u8 32, .int .u8 23, .int .u8 11, .int .u8 54, .int .u8 26, .int .u8 40, .int .u8 15, .int .u8 34, .int .u8 20, .int .u8 31, .int .u8 10, .int .u8 25, .int .u8 14, .int .u8 19, .int .u8 9, .int .u8 13, .int .u8 8, .int .u8 7, .int .u8 6] t frozen
    | o => o).modify 3 fun
    | .cells _ t frozen => .cells #[.int .u64 1, .int .u64 10, .int .u64 100, .int .u64 1000, .int .u64 10000, .int .u64 100000, .int .u64 1000000, .int .u64 10000000, .int .u64 100000000, .int .u64 1000000000, .int .u64 10000000000, .int .u64 100000000000, .int .u64 1000000000000, .int .u64 10000000000000, .int .u64 100000000000000, .int .u64 1000000000000000, .int .u64 10000000000000000, .int .u64 100000000000000000, .int .u64 1000000000000000000, .int .u64 10000000000000000000] t frozen
    | o => o) }
set_option maxRecDepth 100000 in
theorem laid_met (os : Os) : laidMet Tryd.prog Rows.fnExactLogTextRow.laid ((laidWorld os).forCall (fun _ _ => 0) ⟨#[], #[.slice none 0 0, .slice none 0 0], []⟩).memory :=
  laidMet_of_run' 8 (by kernel_rfl) (by kernel_rfl)
set_option maxRecDepth 100000 in
theorem reads (os : Os) {H : Type} (enc : TypeId × Value → H) : ∃ places, DataW.whole enc Tryd.prog ((laidWorld os).forCall (fun _ _ => 0) ⟨#[], #[.slice none 0 0, .slice none 0 0], []⟩).memory Tryd.f5.params.toList Rows.fnExactLogTextSpec.vars false #[.slice none 0 0, .slice none 0 0].toList 8 = some ([.nil, .nil], [], places) :=
  ⟨[], by kernel_rfl⟩
set_option maxRecDepth 100000 in
set_option maxHeartbeats 1000000 in
theorem lifted (os : Os) (started : os.Started) (H : Type) (enc : TypeId × Value → H) (F : Stop.Interp) :
    ReturnsInHanded {} Tryd.checked os 5 .any ((OpenSpec.ofChange Rows.fnExactLogTextSpec).preRow enc Tryd.prog Tryd.f5 Rows.fnExactLogTextRow.domain false Rows.fnExactLogTextRow.laid) (((OpenSpec.ofChange Rows.fnExactLogTextSpec).at F).post enc Tryd.prog Tryd.f5 false true false false) := by
  obtain ⟨places, hx⟩ := reads os enc
  refine returnsInHanded_of_row (C := Tryd.checked) (s := OpenSpec.ofChange Rows.fnExactLogTextSpec) own started (by kernel_rfl) Tryd.func5
    (witness_row_at (enc := enc) (C := Tryd.checked) false (laidWorld os) #[.slice none 0 0, .slice none 0 0] rfl (by kernel_rfl) (by kernel_rfl) (by kernel_rfl)
      (OpenSpec.preRow_of_cond 8 hx (by kernel_rfl) (fun k hk => by cases hk) (by kernel_rfl) (laid_met os))) ?_
  intro W base args ds gs before hval0 hW q1_ hsz0 q2_ hL q3_ q4_
  have hsz : (DataW.weightsEach Tryd.prog (Tryd.f5.params.toList ++ Rows.fnExactLogTextSpec.plain.varTypes Tryd.prog) (ds ++ gs)).all (· ≤ reachBytes) = true := by first | exact hsz0 | exact q1_ | exact q2_ | exact q3_ | exact q4_
  have hval : ∀ (j : Nat) t v, Tryd.f5.params[j]? = some t → args[j]? = some v → Value.okWide Tryd.prog W .any base t v := hval0
  have hW' := hW
  obtain ⟨p, q, hA0, hV, rfl, hfz, hnd⟩ := hW
  have hA : DataW.TrodAll enc Tryd.prog W 0 (fun _ => true) true Tryd.f5.params.toList args.toList ds p := hA0
  rw [Tryd.params5] at hA hval hsz
  obtain ⟨v0, vs0, d0, ds0, p0, q0, hargs, rfl, rfl, h0, r0⟩ := trodAll_cons hA
  obtain ⟨v1, vs1, d1, ds1, p1, q1, rfl, rfl, rfl, h1, r1⟩ := trodAll_cons r0
  obtain ⟨rfl, rfl, rfl⟩ := trodAll_nil r1
  obtain rfl : args = #[v0, v1] := by cases args; simp_all
  obtain ⟨rfl, rfl⟩ := trodVars_none hV
  have k0 := h0
  have lt0 : ∀ x ∈ p0, x.block < W.heap.size := by obtain ⟨m, hm⟩ := k0; exact DataW.trod_lt m _ _ _ hm
  obtain ⟨a0, len0, cap0, rfl⟩ := okWide_slice Tryd.underlying36 (hval 0 36 v0 rfl rfl)
  have yy0 : len0 * 4 ≤ 140737488351232 := by
    obtain ⟨fuel, hf⟩ := h0
    rcases open_slice Tryd.underlying36 hf with ⟨hcs, _⟩ | ⟨x, l, c, mm, n_, D_, Pl, hcs, _, hl, hm, hmm, hx, _⟩
    · simp [Value.cells] at hcs
      obtain ⟨rfl, rfl, rfl⟩ := hcs
      simp
    · simp [Value.cells] at hcs
      obtain ⟨rfl, rfl, rfl⟩ := hcs
      obtain ⟨hx, _⟩ := Prod.mk.inj hx
      have z := sized_slice hsz (j := 0) (t := 36) rfl (by rw [hx]; rfl) Tryd.underlying36
      have hB : Tryd.prog.bytesOf 66 = 4 := by kernel_rfl
      rw [hB] at z
      have hl2 : len0 ≤ mm := by
        rw [hmm]
        split
        · exact hl
        · exact Nat.le_refl _
      simp only [List.length_map, List.length_range] at z
      exact Nat.le_trans (Nat.mul_le_mul_right 4 (by omega : len0 ≤ len0 + (mm - len0))) z
  obtain ⟨l0, rfl, hr0, hw0, hc0⟩ : ∃ l : List S66, l.length = len0 ∧ Kd.C k66 W a0 len0 l ∧ (∀ x ∈ l, -32768 ≤ x.f0 ∧ x.f0 ≤ 32767 ∧ -32768 ≤ x.f1 ∧ x.f1 ≤ 32767) ∧ len0 ≤ cap0 := by
    obtain ⟨fuel, hf⟩ := h0
    rcases open_slice_fields Tryd.underlying36 Tryd.underlying66 (by kernel_rfl) (by kernel_rfl) hf with ⟨hcs, _⟩ | ⟨x, l, c, mm, D_, Pl, hcs, _, hl, hm, hmm, _, hf_⟩
    · simp [Value.cells] at hcs
      obtain ⟨rfl, rfl, rfl⟩ := hcs
      exact ⟨[], rfl, ⟨rfl, by simp [maxLen], fun h => absurd h (by simp)⟩, by simp, Nat.le_refl _⟩
    · simp [Value.cells] at hcs
      obtain ⟨rfl, rfl, rfl⟩ := hcs
      have hlm : len0 ≤ mm := by
        rw [hmm]
        split
        · exact hl
        · exact Nat.le_refl _
      have hel : ∀ j, j < len0 → ∃ y : S66, (∀ q u, ([.int .i16 y.f0, .int .i16 y.f1] : List Value)[q]? = some u → W.cell? (x.add (j * 2 + q)) = some u) ∧ (-32768 ≤ y.f0 ∧ y.f0 ≤ 32767) ∧ (-32768 ≤ y.f1 ∧ y.f1 ≤ 32767) := by
        intro j hj
        obtain ⟨ys, n_, _, _, _, hq⟩ := hf_ j (by omega)
        obtain ⟨u0, y0, hcell0, _, ht0⟩ := hq 0 _ rfl
        obtain ⟨b0, e0, _, w0⟩ := DataW.trod_int Tryd.underlying62 ht0
        obtain rfl : u0 = .int .i16 b0 := by simpa using e0
        obtain ⟨u1, y1, hcell1, _, ht1⟩ := hq 1 _ rfl
        obtain ⟨b1, e1, _, w1⟩ := DataW.trod_int Tryd.underlying62 ht1
        obtain rfl : u1 = .int .i16 b1 := by simpa using e1
        refine ⟨⟨b0, b1⟩, ?_, bd_i16 w0, bd_i16 w1⟩
        intro q u hu
        match q, hu with
        | 0, hu => cases hu; exact hcell0
        | 1, hu => cases hu; exact hcell1
        | (q + 2), hu => simp at hu
      obtain ⟨F_, hF⟩ : ∃ F_ : Nat → S66, ∀ j, j < len0 → (∀ q u, ([.int .i16 (F_ j).f0, .int .i16 (F_ j).f1] : List Value)[q]? = some u → W.cell? (x.add (j * 2 + q)) = some u) ∧ (-32768 ≤ (F_ j).f0 ∧ (F_ j).f0 ≤ 32767) ∧ (-32768 ≤ (F_ j).f1 ∧ (F_ j).f1 ≤ 32767) := by
        refine ⟨fun j => if h : j < len0 then Classical.choose (hel j h) else z66, fun j h => ?_⟩
        simp only [dif_pos h]
        exact Classical.choose_spec (hel j h)
      refine ⟨(List.range len0).map F_, by simp, ⟨by simp, by simp only [maxLen] at hm; omega, fun _ => ⟨x, rfl, ?_⟩⟩, ?_, hl⟩
      · intro j y hy
        simp only [List.getElem?_map, Option.map_eq_some_iff] at hy
        obtain ⟨j', hj', rfl⟩ := hy
        obtain ⟨hlt, rfl⟩ : j < len0 ∧ j = j' := by
          rw [List.getElem?_eq_some_iff] at hj'
          obtain ⟨h1, h2⟩ := hj'
          simp at h1 h2
          exact ⟨h1, h2⟩
        refine ⟨_, rfl, k66_mk W (F_ j), fun q u hu => ?_⟩
        exact (hF j hlt).1 q u hu
      · intro y hy
        simp only [List.mem_map, List.mem_range] at hy
        obtain ⟨j, hj, rfl⟩ := hy
        have := (hF j hj).2
        omega
  have k1 := h1
  have lt1 : ∀ x ∈ p1, x.block < W.heap.size := by obtain ⟨m, hm⟩ := k1; exact DataW.trod_lt m _ _ _ hm
  obtain ⟨a1, len1, cap1, rfl⟩ := okWide_slice Tryd.underlying37 (hval 1 37 v1 rfl rfl)
  have yy1 : len1 * 16 ≤ 140737488351232 := by
    obtain ⟨fuel, hf⟩ := h1
    rcases open_slice Tryd.underlying37 hf with ⟨hcs, _⟩ | ⟨x, l, c, mm, n_, D_, Pl, hcs, _, hl, hm, hmm, hx, _⟩
    · simp [Value.cells] at hcs
      obtain ⟨rfl, rfl, rfl⟩ := hcs
      simp
    · simp [Value.cells] at hcs
      obtain ⟨rfl, rfl, rfl⟩ := hcs
      obtain ⟨hx, _⟩ := Prod.mk.inj hx
      have z := sized_slice hsz (j := 1) (t := 37) rfl (by rw [hx]; rfl) Tryd.underlying37
      have hB : Tryd.prog.bytesOf 71 = 16 := by kernel_rfl
      rw [hB] at z
      have hl2 : len1 ≤ mm := by
        rw [hmm]
        split
        · exact hl
        · exact Nat.le_refl _
      simp only [List.length_map, List.length_range] at z
      exact Nat.le_trans (Nat.mul_le_mul_right 16 (by omega : len1 ≤ len1 + (mm - len1))) z
  obtain ⟨l1, rfl, hr1, hw1, hc1⟩ : ∃ l : List S71, l.length = len1 ∧ Kd.C k71 W a1 len1 l ∧ (∀ x ∈ l, 0 ≤ x.f0 ∧ x.f0 ≤ 18446744073709551615 ∧ -128 ≤ x.f1 ∧ x.f1 ≤ 127) ∧ len1 ≤ cap1 := by
    obtain ⟨fuel, hf⟩ := h1
    rcases open_slice_fields Tryd.underlying37 Tryd.underlying71 (by kernel_rfl) (by kernel_rfl) hf with ⟨hcs, _⟩ | ⟨x, l, c, mm, D_, Pl, hcs, _, hl, hm, hmm, _, hf_⟩
    · simp [Value.cells] at hcs
      obtain ⟨rfl, rfl, rfl⟩ := hcs
      exact ⟨[], rfl, ⟨rfl, by simp [maxLen], fun h => absurd h (by simp)⟩, by simp, Nat.le_refl _⟩
    · simp [Value.cells] at hcs
      obtain ⟨rfl, rfl, rfl⟩ := hcs
      have hlm : len1 ≤ mm := by
        rw [hmm]
        split
        · exact hl
        · exact Nat.le_refl _
      have hel : ∀ j, j < len1 → ∃ y : S71, (∀ q u, ([.int .u64 y.f0, .int .i8 y.f1] : List Value)[q]? = some u → W.cell? (x.add (j * 2 + q)) = some u) ∧ (0 ≤ y.f0 ∧ y.f0 ≤ 18446744073709551615) ∧ (-128 ≤ y.f1 ∧ y.f1 ≤ 127) := by
        intro j hj
        obtain ⟨ys, n_, _, _, _, hq⟩ := hf_ j (by omega)
        obtain ⟨u0, y0, hcell0, _, ht0⟩ := hq 0 _ rfl
        obtain ⟨b0, e0, _, w0⟩ := DataW.trod_int Tryd.underlying67 ht0
        obtain rfl : u0 = .int .u64 b0 := by simpa using e0
        obtain ⟨u1, y1, hcell1, _, ht1⟩ := hq 1 _ rfl
        obtain ⟨b1, e1, _, w1⟩ := DataW.trod_int Tryd.underlying22 ht1
        obtain rfl : u1 = .int .i8 b1 := by simpa using e1
        refine ⟨⟨b0, b1⟩, ?_, bd_u64 w0, bd_i8 w1⟩
        intro q u hu
        match q, hu with
        | 0, hu => cases hu; exact hcell0
        | 1, hu => cases hu; exact hcell1
        | (q + 2), hu => simp at hu
      obtain ⟨F_, hF⟩ : ∃ F_ : Nat → S71, ∀ j, j < len1 → (∀ q u, ([.int .u64 (F_ j).f0, .int .i8 (F_ j).f1] : List Value)[q]? = some u → W.cell? (x.add (j * 2 + q)) = some u) ∧ (0 ≤ (F_ j).f0 ∧ (F_ j).f0 ≤ 18446744073709551615) ∧ (-128 ≤ (F_ j).f1 ∧ (F_ j).f1 ≤ 127) := by
        refine ⟨fun j => if h : j < len1 then Classical.choose (hel j h) else z71, fun j h => ?_⟩
        simp only [dif_pos h]
        exact Classical.choose_spec (hel j h)
      refine ⟨(List.range len1).map F_, by simp, ⟨by simp, by simp only [maxLen] at hm; omega, fun _ => ⟨x, rfl, ?_⟩⟩, ?_, hl⟩
      · intro j y hy
        simp only [List.getElem?_map, Option.map_eq_some_iff] at hy
        obtain ⟨j', hj', rfl⟩ := hy
        obtain ⟨hlt, rfl⟩ : j < len1 ∧ j = j' := by
          rw [List.getElem?_eq_some_iff] at hj'
          obtain ⟨h1, h2⟩ := hj'
          simp at h1 h2
          exact ⟨h1, h2⟩
        refine ⟨_, rfl, k71_mk W (F_ j), fun q u hu => ?_⟩
        exact (hF j hlt).1 q u hu
      · intro y hy
        simp only [List.mem_map, List.mem_range] at hy
        obtain ⟨j, hj, rfl⟩ := hy
        have := (hF j hj).2
        omega
  clear hA0 hval0 hsz0 hsz
  obtain ⟨k, hp⟩ := Pure.FnExactLogText l0 l1 hw0 yy0 hw1 yy1
  refine (laws_FnExactLogText.calls k _ _ l0 _ _ l1 true W hr0 hc0 hr1 hc1 hp (Aside0.mk rfl) (tab10 hL)).mono fun e W' ⟨he, bel0⟩ => ?_
  have bel : Below W.heap.size W W' := bel0
  subst he
  exact ⟨_, rfl, _, _, _, [], _, [], hW', trodAll_mk1 (shut_bool Tryd.underlying4 _), (trodAll_cons_mk (Below.trod laidOut (by kernel_rfl) (of_decide_eq_true (by kernel_rfl)) k0 bel lt0) (trodAll_cons_mk (Below.trod laidOut (by kernel_rfl) (of_decide_eq_true (by kernel_rfl)) k1 bel lt1) trodAll_mk0)), rfl, bel.frame _, fun h => by cases h⟩
theorem over : Rows.fnExactLogTextRow.holds Tryd.pinned (OpenSpec.ofChange Rows.fnExactLogTextSpec) :=
  OpenClaim.holds_of_cond 5 Tryd.f5 rfl rfl rfl rfl rfl rfl rfl ⟨rfl, rfl, rfl, rfl, rfl⟩ rfl rfl rfl rfl rfl (by kernel_rfl) Tryd.func5 (by kernel_rfl)
    (of_decide_eq_true (by kernel_rfl)) (by unfold Func.isWrapper; first | (rw [if_pos (by decide +kernel)]; kernel_rfl) | (rw [if_neg (by decide +kernel)]; exact ⟨rfl, rfl⟩))
    (fun os started H enc _ F => by rw [OpenClaim.pre_eq_preRow]; exact lifted os started H enc F)
set_option maxRecDepth 100000 in
theorem plain (f : FuncId) (fn : Func) (hf : Tryd.pinned.checked.prog.funcNamed "loop.example/g01301/laws.FnExactLogText" = some f) (hfn : Tryd.pinned.checked.prog.funcs[f]? = some fn) :
    true = Tryd.pinned.checked.prog.looks [] ∧ ∀ (j : Nat) t, fn.params[j]? = some t → Tryd.pinned.checked.prog.wantsStandIn t = false := by
  obtain rfl : f = 5 := Option.some.inj ((show Tryd.prog.funcNamed "loop.example/g01301/laws.FnExactLogText" = some 5 by kernel_rfl).symm.trans hf) |>.symm
  obtain rfl : fn = Tryd.f5 := (Option.some.inj (Tryd.func5.symm.trans hfn)).symm
  refine ⟨by kernel_rfl, fun j t ht => ?_⟩
  have h := Array.mem_of_getElem? ht
  exact (show ∀ t ∈ Tryd.f5.params, Tryd.prog.wantsStandIn t = false by rw [Tryd.params5]; intro t ht; simp only [List.mem_toArray, List.mem_cons, List.not_mem_nil, or_false] at ht; (repeat' (rcases ht with rfl | ht)) <;> first | kernel_rfl | (subst ht; kernel_rfl)) t h
theorem proved : Rows.FnExactLogTextCardSaid :=
  Claim7.holds_tied_plain_at .later [] _ _ _ _ over (fun _ h => by cases h) (by kernel_rfl) (fun _ h => by cases h) fnExactLogText_row_tie rfl ⟨rfl, rfl⟩ (by kernel_rfl) rfl plain (by kernel_rfl)
end Go.Proofs.YtiehbagnebjadaaDoor.fnExactLogText
namespace Go.Proofs.YtiehbagnebjadaaDoor
/-- The row, under a short name, for the claim. -/
theorem fnExactLogText_holds : Rows.FnExactLogTextCardSaid := fnExactLogText.proved
#print axioms fnExactLogText_holds
end Go.Proofs.YtiehbagnebjadaaDoor
