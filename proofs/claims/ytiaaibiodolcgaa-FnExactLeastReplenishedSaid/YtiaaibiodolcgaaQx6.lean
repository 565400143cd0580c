-- Written by wip/mk.py of this repository (a run of the kit's print with hand-proved leaves added); Lean checks it.
import Derived.Test.YtiaaibiodolcgaaQx0
import Derived.Test.YtiaaibiodolcgaaQx1
import Derived.Test.YtiaaibiodolcgaaQx5
namespace Go.Proofs.Ytiaaibiodolcgaa.Q
open Go.RowKit Go.Proofs.YtiaaibiodolcgaaW.PrintWords Go.Proofs.YtiaaibiodolcgaaW.PrintLast Go.Proofs.YtiaaibiodolcgaaW.PrintMore
attribute [local go_sem] max2_int min2_int max_two min_two max_three min_three max_four min_four   -- for this text's walks alone
set_option linter.unusedVariables false
set_option linter.unusedSimpArgs false

/-! ### impl_LeastReplenished: function 55 -/
theorem lr_below_row {w W : World} {g : Nat} (h : Below w.heap.size w W) (hg : w.heap.size ≤ g) (cs : Array Value) : Below w.heap.size w (W.setRow g cs) :=
  h.trans ⟨rfl, rfl, rfl, by simp [World.setRow], fun k hk => setRow_other W g k cs (by omega)⟩
set_option maxHeartbeats 8000000 in
set_option maxRecDepth 100000 in
theorem impl_LeastReplenished.clo (db ab sb : Nat) (p k c d area s v u g : Int) (r : Bool) (W : World) (hd : W.heap[db]? = some (.cells #[.int .i64 p, .int .i64 k, .int .i8 c, .int .i8 d] 30 (0, 0))) (ha : W.heap[ab]? = some (.cells #[.int .i64 area] 2 (0, 0))) (hs : W.heap[sb]? = some (.cells #[.int .i64 s] 2 (0, 0)))
    (h : impl_Bath_canDevelop.f v u g p k c d area s = some r) :
    Calls Try.prog 101 (#[.agg #[.int .i64 v, .int .i64 u, .int .i64 g]] ++ #[.pointer (some ⟨db, 0, none⟩), .pointer (some ⟨ab, 0, none⟩), .pointer (some ⟨sb, 0, none⟩)]) W fun e W' => e = .returned (.bool r) ∧ Below W.heap.size W W' := by
  have HH := Aside0.mk h
  clear h
  have HD := Aside0.mk hd
  have HA := Aside0.mk ha
  have HS := Aside0.mk hs
  clear hd ha hs
  go_enter Try.func101, Try.ntmps101
  go_wp2_with (first | ((with_reducible refine gate_dst (N := 4) rfl ?_); refine box_event ?hg (N := 4) ?hd (cs := #[.int .i64 v, .int .i64 u, .int .i64 g]) (t := 27) ?hr ?_; (case hd => rfl); (case hg => rfl); (case hr => first | (go_simp; done) | (go_simp; rfl)); intro gb hg W0 hbox hb; have HB := Aside0.mk hb; clear hg; have c0 : W0.cell? ⟨gb, 0, none⟩ = some (.int .i64 v) := (blk_cell hbox 0).trans rfl; have c1 : W0.cell? ⟨gb, 1, none⟩ = some (.int .i64 u) := (blk_cell hbox 1).trans rfl; have c2 : W0.cell? ⟨gb, 2, none⟩ = some (.int .i64 g) := (blk_cell hbox 2).trans rfl; have d0 : W0.cell? ⟨db, 0, none⟩ = some (.int .i64 p) := (blk_cell (blk_below HD.out hb) 0).trans rfl; have d1 : W0.cell? ⟨db, 1, none⟩ = some (.int .i64 k) := (blk_cell (blk_below HD.out hb) 1).trans rfl; have d2 : W0.cell? ⟨db, 2, none⟩ = some (.int .i8 c) := (blk_cell (blk_below HD.out hb) 2).trans rfl; have d3 : W0.cell? ⟨db, 3, none⟩ = some (.int .i8 d) := (blk_cell (blk_below HD.out hb) 3).trans rfl; have a0 : W0.cell? ⟨ab, 0, none⟩ = some (.int .i64 area) := (blk_cell (blk_below HA.out hb) 0).trans rfl; have s0 : W0.cell? ⟨sb, 0, none⟩ = some (.int .i64 s) := (blk_cell (blk_below HS.out hb) 0).trans rfl; clear hb hbox))
  refine (impl_Bath_canDevelop.calls v u g p k c d area s r _ HH.out).mono ?_
  rintro e w1 ⟨rfl, hb⟩
  have HBB := Aside0.mk (below_step HB.out hb)
  clear hb c0 c1 c2 d0 d1 d2 d3 a0 s0
  go_wp2_with fail
  go_ret
  exact ⟨rfl, HBB.out⟩
def impl_LeastReplenished.l0 (p k c d : Int) (l : List Int) (s : Int) : Nat → List Int → Int → Int → Int → Int → Int → Option (List Int × Int × Int)
  | 0, _, _, _, _, _, _ => none
  | n + 1, o, sm, i, v, u, g => if i < (l.length : Int) then
      ((impl_Bath_leastFor.lf (fun x y z => impl_Bath_canDevelop.f x y z p k c d (rd l i) s) v u g (v + 2).toNat 0).bind fun m => if m > v then some ([], 0, 6) else
        ((impl_Bath_replenished.f v u g m).bind fun b => if o.length < 17592186044416 then impl_LeastReplenished.l0 p k c d l s n (o ++ [m]) (wrap64 (sm + m)) (wrap64 (i + 1)) b.1 (wrap64 (b.2.1 + rd l i)) b.2.2 else none))
    else some (o, sm, 0)
def impl_LeastReplenished.f (p k c d v u g : Int) (l : List Int) (s : Int) : Option (List Int × Int × Int) :=
  (impl_areasCode.f p k c d v u g l s).bind fun t => if t = 0 then impl_LeastReplenished.l0 p k c d l s (l.length + 1) [] 0 0 v u g else some ([], 0, t)
set_option maxHeartbeats 8000000 in
set_option maxRecDepth 100000 in
theorem impl_LeastReplenished.calls (p k c d v u g : Int) (A2 : Option Addr) (c2 : Nat) (l : List Int) (s : Int) (r1 : List Int) (r2 r3 : Int) (w : World) (hr2 : Kd.C (Kd.int .i64) w A2 l.length l) (hc2 : l.length ≤ c2)
    (h : impl_LeastReplenished.f p k c d v u g l s = some (r1, r2, r3)) :
    Calls Try.prog 55 #[.agg #[.int .i64 p, .int .i64 k, .int .i8 c, .int .i8 d], .agg #[.int .i64 v, .int .i64 u, .int .i64 g], .slice A2 l.length c2, .int .i64 s] w fun e w' => ∃ v0_ : Value, e = .returned (.tuple #[v0_, .int .i64 r2, .int .i64 r3]) ∧ Kd.R (Kd.int .i64) 2 w' w.heap.size (fun _ => True) v0_ r1 ∧ Below w.heap.size w w' := by
  unfold impl_LeastReplenished.f at h
  obtain ⟨n, hn⟩ : ∃ n, n = l.length + 1 := ⟨_, rfl⟩
  rw [← hn] at h
  clear hn
  obtain ⟨t, ht, h⟩ := Option.bind_eq_some_iff.mp h
  have HT := Aside0.mk ht
  have H := Aside0.mk h
  have HR := Aside0.mk hr2
  have HC := Aside0.mk hc2
  clear ht h hr2 hc2
  go_enter Try.func55, Try.ntmps55
  go_wp2_with fail
  have hA := alloc3_0 w (.cells #[.int .i64 p, .int .i64 k, .int .i8 c, .int .i8 d] 30) (.cells #[.int .i64 v, .int .i64 u, .int .i64 g] 27) (.cells #[.int .i64 s] 2)
  have hB := alloc3_1 w (.cells #[.int .i64 p, .int .i64 k, .int .i8 c, .int .i8 d] 30) (.cells #[.int .i64 v, .int .i64 u, .int .i64 g] 27) (.cells #[.int .i64 s] 2)
  have hC := alloc3_2 w (.cells #[.int .i64 p, .int .i64 k, .int .i8 c, .int .i8 d] 30) (.cells #[.int .i64 v, .int .i64 u, .int .i64 g] 27) (.cells #[.int .i64 s] 2)
  have hb0 := alloc3_below w (.cells #[.int .i64 p, .int .i64 k, .int .i8 c, .int .i8 d] 30) (.cells #[.int .i64 v, .int .i64 u, .int .i64 g] 27) (.cells #[.int .i64 s] 2)
  refine (impl_areasCode.calls p k c d v u g A2 c2 l s t _ (Kd.C_below HR.out hb0) HC.out HT.out).mono ?_
  rintro e w1 ⟨rfl, hb⟩
  have DA := Aside0.mk (blk_below hA hb)
  have DB := Aside0.mk (blk_below hB hb)
  have DC := Aside0.mk (blk_below hC hb)
  have HB1 := Aside0.mk (below_step hb0 hb)
  have HS1 := Aside0.mk (blk_lt DC.out)
  clear hA hB hC hb0 hb
  by_cases ht0 : t = 0
  · have H1 : impl_LeastReplenished.l0 p k c d l s n [] 0 0 v u g = some (r1, r2, r3) := by have := H.out; rwa [if_pos ht0] at this
    have H2 := Aside0.mk H1
    have ht1 : (t != 0) = false := by simp [ht0]
    clear H1 H ht0
    go_wp2_with (first | ((with_reducible refine gate_dst (N := 25) rfl ?_); refine Kd.R_lit (Kd.int .i64) _ 2 ?hg (N := 25) ?hd (xs := ([] : List Int)) (inner := []) (ok := fun k_ => k_ ≠ w.heap.size + 2) (okp := fun k_ => k_ ≠ w.heap.size + 2) ?hr ?hp (fun _ hk => hk) (by have := HS1.out; omega) (Below.refl _ _) (Nat.le_refl _) (by simp) ?_; (case hd => rfl); (case hg => rfl); (case hr => first | (go_simp; done) | (go_simp; rfl)); (case hp => exact (Reps.none _ _)); intro v25 w2 ho7 hb hg_ hnew_; clear hg_ hnew_; have HO2 := Aside0.mk (Kd.R_lower ho7 (below_size HB1.out)); have HB2 := Aside0.mk (below_step HB1.out hb); have DA2 := Aside0.mk (blk_below DA.out hb); have DB2 := Aside0.mk (blk_below DB.out hb); have DC2 := Aside0.mk (blk_below DC.out hb); clear hb ho7))
    go_loopg [12, 13, 28] n (fun kq v12 v13 v28 w' => ∃ (o : List Int) (sm i v u g : Int) (W : World), W = w' ∧ v13 = .int .i64 sm ∧ v28 = .int .i64 i ∧ Aside0 (impl_LeastReplenished.l0 p k c d l s kq o sm i v u g = some (r1, r2, r3)) ∧ Aside0 (0 ≤ i) ∧ Aside0 (kq ≤ n) ∧ Aside0 (Kd.R (Kd.int .i64) 2 W w.heap.size (fun k_ => k_ ≠ w.heap.size + 2) v12 o) ∧
      Aside0 (W.heap[w.heap.size]? = some (.cells #[.int .i64 p, .int .i64 k, .int .i8 c, .int .i8 d] 30 (0, 0))) ∧ Aside0 (W.heap[w.heap.size + 1]? = some (.cells #[.int .i64 v, .int .i64 u, .int .i64 g] 27 (0, 0))) ∧ Aside0 (W.heap[w.heap.size + 2]? = some (.cells #[.int .i64 s] 2 (0, 0))) ∧ Aside0 (Below w.heap.size w W))
    case atStart => exact ⟨[], 0, 0, v, u, g, _, rfl, rfl, rfl, H2, ⟨by omega⟩, ⟨Nat.le_refl _⟩, HO2, DA2, DB2, DC2, HB2⟩
    case round =>
      clear H2 HO2 DA2 DB2 DC2 HB2 DA DB DC HB1
      obtain ⟨o, sm, i, v, u, g, W, rfl, rfl, rfl, HA, HI, HK, HO, DA, DB, DC, HB⟩ := hrel
      cases gk with
      | zero => exact absurd HA.out (by simp [impl_LeastReplenished.l0])
      | succ k1 =>
        have H := HA.out
        clear HA
        simp only [impl_LeastReplenished.l0] at H
        by_cases hi : i < (l.length : Int)
        · rw [if_pos hi] at H
          obtain ⟨m, h1, H⟩ := Option.bind_eq_some_iff.mp H
          have H1 := Aside0.mk h1
          have H2 := Aside0.mk H
          clear h1 H
          have h0 := HI.out
          obtain ⟨ad, hA2, hcell⟩ := Kd.at_int (Kd.C_below HR.out HB.out) i h0 (by exact_mod_cast hi)
          subst hA2
          have s0 := blk_lt DA.out
          have s1 := blk_lt DB.out
          have s2 := blk_lt DC.out
          obtain ⟨a, ha⟩ : ∃ a, a = rd l i := ⟨_, rfl⟩
          rw [← ha] at hcell
          have HAR := Aside0.mk ha
          clear ha
          have hb := below_alloc (Below.refl W.heap.size W) (.cells #[.int .i64 a] 2)
          have HX := Aside0.mk (show (W.alloc (.cells #[.int .i64 a] 2)).heap[W.heap.size]? = some (.cells #[.int .i64 a] 2 (0, 0)) from heap_alloc_new _ _)
          have DA2 := Aside0.mk (blk_below DA.out hb)
          have DB2 := Aside0.mk (blk_below DB.out hb)
          have DC2 := Aside0.mk (blk_below DC.out hb)
          have HO2 := Aside0.mk (Kd.R_below HO.out hb)
          have HB2 := Aside0.mk (below_step HB.out hb)
          have b0 : (W.alloc (.cells #[.int .i64 a] 2)).cell? ⟨w.heap.size + 1, 0, none⟩ = some (.int .i64 v) := (blk_cell DB2.out 0).trans rfl
          have b1 : (W.alloc (.cells #[.int .i64 a] 2)).cell? ⟨w.heap.size + 1, 1, none⟩ = some (.int .i64 u) := (blk_cell DB2.out 1).trans rfl
          have b2 : (W.alloc (.cells #[.int .i64 a] 2)).cell? ⟨w.heap.size + 1, 2, none⟩ = some (.int .i64 g) := (blk_cell DB2.out 2).trans rfl
          clear hb s0 s1 s2
          go_wp2_with fail
          have H1' : impl_Bath_leastFor.lf (fun x y z => impl_Bath_canDevelop.f x y z p k c d a s) v u g (v + 2).toNat 0 = some m := by rw [HAR.out]; exact H1.out
          refine (impl_Bath_leastFor.gen 101 #[.pointer (some ⟨w.heap.size, 0, none⟩), .pointer (some ⟨W.heap.size, 0, none⟩), .pointer (some ⟨w.heap.size + 1 + 1, 0, none⟩)] _ _ (fun args W => enters_ Try.func101 (by kernel_rfl) rfl args W)
            (fun x y z b W' hW hq => impl_LeastReplenished.clo w.heap.size W.heap.size (w.heap.size + 2) p k c d a s x y z b W' (blk_below DA2.out hW) (blk_below HX.out hW) (blk_below DC2.out hW) hq) v u g m _ H1').mono ?_
          rintro e w3 ⟨rfl, hb⟩
          have DA3 := Aside0.mk (blk_below DA2.out hb)
          have DB3 := Aside0.mk (blk_below DB2.out hb)
          have DC3 := Aside0.mk (blk_below DC2.out hb)
          have HX3 := Aside0.mk (blk_below HX.out hb)
          have HO3 := Aside0.mk (Kd.R_below HO2.out hb)
          have HB3 := Aside0.mk (below_step HB2.out hb)
          have HG3 := Aside0.mk (show w.heap.size + 2 < W.heap.size from blk_lt DC.out)
          clear hb H1' b0 b1 b2 DA2 DB2 DC2 HX HO2 HB2 hcell HO DA DB DC HB
          have H3 := H2.out
          clear H2
          have b0 : w3.cell? ⟨w.heap.size + 1, 0, none⟩ = some (.int .i64 v) := (blk_cell DB3.out 0).trans rfl
          by_cases hm : m > v
          · rw [if_pos hm] at H3
            simp only [Option.some.injEq, Prod.mk.injEq] at H3
            obtain ⟨rfl, rfl, rfl⟩ := H3
            go_wp2_with fail
            go_ret3
            exact ⟨_, rfl, Kd.R_nil _ _ _ _ _, HB3.out⟩
          · rw [if_neg hm] at H3
            obtain ⟨⟨x, y, z⟩, h4, H3⟩ := Option.bind_eq_some_iff.mp H3
            have H4 := Aside0.mk h4
            clear h4
            by_cases hcap : o.length < 17592186044416
            · rw [if_pos hcap] at H3
              have H5 := Aside0.mk (show impl_LeastReplenished.l0 p k c d l s k1 (o ++ [m]) (wrap64 (sm + m)) (wrap64 (i + 1)) x (wrap64 (y + a)) z = some (r1, r2, r3) by rw [HAR.out]; exact H3)
              have HCAP := Aside0.mk hcap
              clear H3 hcap
              have b1 : w3.cell? ⟨w.heap.size + 1, 1, none⟩ = some (.int .i64 u) := (blk_cell DB3.out 1).trans rfl
              have b2 : w3.cell? ⟨w.heap.size + 1, 2, none⟩ = some (.int .i64 g) := (blk_cell DB3.out 2).trans rfl
              go_wp2_with fail
              refine (impl_Bath_replenished.calls v u g m x y z _ H4.out).mono ?_
              rintro e w4 ⟨rfl, hb⟩
              have DA4 := Aside0.mk (blk_below DA3.out hb)
              have DB4 := Aside0.mk (blk_below DB3.out hb)
              have DC4 := Aside0.mk (blk_below DC3.out hb)
              have HX4 := Aside0.mk (blk_below HX3.out hb)
              have HO4 := Aside0.mk (Kd.R_below HO3.out hb)
              have HB4 := Aside0.mk (below_step HB3.out hb)
              clear hb b0 b1 b2 DA3 DB3 DC3 HX3 HO3 HB3 hm
              obtain ⟨w5, h5⟩ : ∃ w5, w5 = w4.setRow (w.heap.size + 1) #[.int .i64 x, .int .i64 y, .int .i64 z] := ⟨_, rfl⟩
              have n0 : w.heap.size ≠ w.heap.size + 1 := by omega
              have n2 : w.heap.size + 2 ≠ w.heap.size + 1 := by omega
              have n3 : W.heap.size ≠ w.heap.size + 1 := by have := HG3.out; omega
              have DA5 := Aside0.mk (show w5.heap[w.heap.size]? = some (.cells #[.int .i64 p, .int .i64 k, .int .i8 c, .int .i8 d] 30 (0, 0)) by rw [h5, setRow_other w4 _ _ _ n0]; exact DA4.out)
              have DC5 := Aside0.mk (show w5.heap[w.heap.size + 2]? = some (.cells #[.int .i64 s] 2 (0, 0)) by rw [h5, setRow_other w4 _ _ _ n2]; exact DC4.out)
              have HX5 := Aside0.mk (show w5.heap[W.heap.size]? = some (.cells #[.int .i64 a] 2 (0, 0)) by rw [h5, setRow_other w4 _ _ _ n3]; exact HX4.out)
              have DB5 := Aside0.mk (show w5.heap[w.heap.size + 1]? = some (.cells #[.int .i64 x, .int .i64 y, .int .i64 z] 27 (0, 0)) by rw [h5]; exact setRow_heap w4 _ _ _ _ _ DB4.out)
              have HO5 := Aside0.mk (show Kd.R (Kd.int .i64) 2 w5 w.heap.size (fun k => k ≠ w.heap.size + 2 ∧ k ≠ w.heap.size + 1) u12 o by rw [h5]; exact Kd.R_step (Kd.R_types HO4.out DB4.out (by intro q hq; simp [Kd.E, Kd.int, Kd.scalar] at hq; omega)) (fun k hk _ => setRow_other w4 _ k _ hk.2))
              have HB5 := Aside0.mk (show Below w.heap.size w w5 by rw [h5]; exact lr_below_row HB4.out (by omega) _)
              have H55 := Aside0.mk h5
              clear DA4 DC4 HX4 HO4 HB4 n0 n2 n3
              have c1 : w5.cell? ⟨w.heap.size + 1, 1, none⟩ = some (.int .i64 y) := (blk_cell DB5.out 1).trans rfl
              have f1 := blk_frozen DB5.out 1
              have a0 : w5.cell? ⟨W.heap.size, 0, none⟩ = some (.int .i64 a) := (blk_cell HX5.out 0).trans rfl
              have hone := Aside0.mk (show (#[.int .i64 x, .int .i64 y, .int .i64 z] : Array Value).all (·.oneCell') = true by simp; exact ⟨rfl, rfl, rfl⟩)
              have DA6 := Aside0.mk (show (w5.setCell ⟨w.heap.size + 1, 1, none⟩ (.int .i64 (wrap64 (y + a)))).heap[w.heap.size]? = some (.cells #[.int .i64 p, .int .i64 k, .int .i8 c, .int .i8 d] 30 (0, 0)) by rw [heap_setCell_other w5 _ _ _ (by simp)]; exact DA5.out)
              have DC6 := Aside0.mk (show (w5.setCell ⟨w.heap.size + 1, 1, none⟩ (.int .i64 (wrap64 (y + a)))).heap[w.heap.size + 2]? = some (.cells #[.int .i64 s] 2 (0, 0)) by rw [heap_setCell_other w5 _ _ _ (by simp)]; exact DC5.out)
              have DB6 := Aside0.mk (show (w5.setCell ⟨w.heap.size + 1, 1, none⟩ (.int .i64 (wrap64 (y + a)))).heap[w.heap.size + 1]? = some (.cells #[.int .i64 x, .int .i64 (wrap64 (y + a)), .int .i64 z] 27 (0, 0)) by simpa using blk_set DB5.out 1 (.int .i64 (wrap64 (y + a))))
              have HO6 := Aside0.mk (show Kd.R (Kd.int .i64) 2 (w5.setCell ⟨w.heap.size + 1, 1, none⟩ (.int .i64 (wrap64 (y + a)))) w.heap.size (fun k_ => k_ ≠ w.heap.size + 2) u12 o from Kd.R_mono (Kd.R_far HO5.out (fun k hk => hk.2) _) (fun k hk => hk.1))
              have HB6 := Aside0.mk (show Below w.heap.size w (w5.setCell ⟨w.heap.size + 1, 1, none⟩ (.int .i64 (wrap64 (y + a)))) from below_set HB5.out (by omega))
              clear h5
              go_wp2_with (first | (refine wpList_store_row rfl 27 _ _ rfl (w.heap.size + 1) #[.int .i64 x, .int .i64 y, .int .i64 z] rfl rfl 27 _ DB4.out (by kernel_rfl) rfl hone.out ?_; rw [← H55.out]) | ((with_reducible refine gate_builtin (b := .append) (xs := #[.tmp 47, .tmp 49]) rfl ?_); at_builtin; refine Kd.R_append (Kd.int .i64) (w0 := w) w.heap.size rfl (.tmp 47) (.tmp 49) 64 2 (.int .i64 0) 8 rfl Try.underlying64 info2 rfl (by decide) (by omega) u12 o m [.int .i64 m] (fun k_ => k_ ≠ w.heap.size + 2) (fun _ => False) rfl (by show Value.slice (some ⟨w5.heap.size, 0, none⟩) 1 1 = _; simp) ?aP (fun _ hk => hk.elim) ?aF ?aO ?aB ?aS ?aL ?_; (case aP => exact rfl); (case aF => exact (fun k_ hk_ => by have := blk_lt DC6.out; omega)); (case aO => exact HO6.out); (case aB => exact HB6.out); (case aS => exact below_size HB6.out); (case aL => have := HCAP.out; omega); intro v50 w7 ho hb hg hat; have HO7 := Aside0.mk ho; have HB7 := Aside0.mk hb; have DA7 := Aside0.mk (blk_grown DA6.out hg (Kd.R_ne HO6.out DA6.out (by decide))); have DB7 := Aside0.mk (blk_grown DB6.out hg (Kd.R_ne HO6.out DB6.out (by decide))); have DC7 := Aside0.mk (blk_grown DC6.out hg (fun e_ => HO6.out.1 _ e_.symm rfl)); clear ho hb hg hat))
              go_roundg k1
              case measure => have := HK.out; omega
              case rel => exact ⟨o ++ [m], _, _, _, _, _, _, rfl, rfl, rfl, H5, ⟨by (have hmx := Kd.C_max HR.out); (have e9 : wrap64 (i + 1) = i + 1 := (by unfold wrap64; omega)); (rw [e9]; omega)⟩, ⟨by have := HK.out; omega⟩, HO7, DA7, DB7, DC7, HB7⟩
            · rw [if_neg hcap] at H3
              exact absurd H3 (by simp)
        · rw [if_neg hi] at H
          simp only [Option.some.injEq, Prod.mk.injEq] at H
          obtain ⟨rfl, rfl, rfl⟩ := H
          go_wp2_with fail
          go_ret3
          exact ⟨_, rfl, Kd.R_mono HO.out (fun _ _ => trivial), HB.out⟩
  · have H1 : some (([] : List Int), (0 : Int), t) = some (r1, r2, r3) := by have := H.out; rwa [if_neg ht0] at this
    simp only [Option.some.injEq, Prod.mk.injEq] at H1
    obtain ⟨rfl, rfl, rfl⟩ := H1
    have ht1 : (t != 0) = true := by simp [ht0]
    clear H ht0
    go_wp2_with fail
    go_ret3
    exact ⟨_, rfl, Kd.R_nil _ _ _ _ _, HB1.out⟩


end Go.Proofs.Ytiaaibiodolcgaa.Q
