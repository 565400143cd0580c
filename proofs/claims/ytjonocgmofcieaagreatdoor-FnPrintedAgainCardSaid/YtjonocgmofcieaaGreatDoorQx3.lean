-- Written by wip/mk.py of this repository (a run of the kit's print with hand-proved leaves added); Lean checks it.
import Derived.Test.YtjonocgmofcieaaGreatDoorQx0
namespace Go.Proofs.YtjonocgmofcieaaGreatDoor.Q
open Go.RowKit Go.Proofs.YtjonocgmofcieaaGreatDoorW.PrintWords Go.Proofs.YtjonocgmofcieaaGreatDoorW.PrintLast Go.Proofs.YtjonocgmofcieaaGreatDoorW.PrintMore
attribute [local go_sem] max2_int min2_int max_two min_two max_three min_three max_four min_four   -- for this text's walks alone
set_option linter.unusedVariables false
set_option linter.unusedSimpArgs false

/-! ### plain words for the hand-proved leaves -/
def D_idx {α : Type} (q : α → Option Bool) : List α → Int → Option Int
  | [], _ => some (-1)
  | x :: t, i => (q x).bind fun b => if b = true then some i else D_idx q t (i + 1)
theorem D_idx_drop {α : Type} (q : α → Option Bool) (l : List α) (k : Nat) (hk : k < l.length) (i : Int) :
    D_idx q (l.drop k) i = (q (l[k]'hk)).bind fun b => if b = true then some i else D_idx q (l.drop (k + 1)) (i + 1) := by
  rw [List.drop_eq_getElem_cons hk]; rfl
theorem alloc3_0 (w : World) (A B C : Obj) : (((w.alloc A).alloc B).alloc C).heap[w.heap.size]? = some A := by
  rw [heap_alloc_old _ C (by simp; omega), heap_alloc_old _ B (by simp)]
  exact heap_alloc_new _ _
theorem alloc3_1 (w : World) (A B C : Obj) : (((w.alloc A).alloc B).alloc C).heap[w.heap.size + 1]? = some B := by
  rw [heap_alloc_old _ C (by simp)]
  exact heap_alloc2_new w A B
theorem alloc3_2 (w : World) (A B C : Obj) : (((w.alloc A).alloc B).alloc C).heap[w.heap.size + 2]? = some C := by
  have h := heap_alloc2_new (w.alloc A) B C
  rwa [show (w.alloc A).heap.size + 1 = w.heap.size + 2 by simp] at h
theorem alloc3_below (w : World) (A B C : Obj) : Below w.heap.size w (((w.alloc A).alloc B).alloc C) :=
  (((Below.refl _ _).alloc (Nat.le_refl _) A).alloc (by simp) B).alloc (by simp; omega) C
theorem below_grow (w : World) (k : Nat) (os : Array Obj) : Below w.heap.size w (Sort.grow (w.drewN k) os) := by
  have hb : Below w.heap.size w (w.drewN k) := pw_below_drewN (Below.refl _ w) k
  refine ⟨hb.os, hb.tape, hb.output, ?_, fun i hi => ?_⟩
  · have := hb.size
    simp only [Sort.grow, Array.size_append]
    omega
  · have := hb.block i hi
    have h2 := hb.size
    show ((w.drewN k).heap ++ os)[i]? = _
    rw [Array.getElem?_append_left (by omega)]
    exact this
/-- what the library's tables and variables hold that this work looks into -/
structure Tab10 (w : World) : Prop where
  pow : Lib.TabIs Tryz.prog w "internal/strconv.uint64pow10" .u64 Lib.pow10Tab
  hex : w.cell? ⟨7, 15, none⟩ = some (.int .u8 4)
  len : ∃ m, w.cell? ⟨0, 0, none⟩ = some (.int .i64 m)
  syn : ∃ ev, w.cell? ⟨1, 0, none⟩ = some ev ∧ (ev = .nilIface ∨ ∃ te pe, ev = .iface te pe)
  ran : ∃ ev, w.cell? ⟨2, 0, none⟩ = some ev ∧ (ev = .nilIface ∨ ∃ te pe, ev = .iface te pe)
theorem cell_kept {w W : World} (hb : Below w.heap.size w W) {a : Addr} {v : Value} (h : w.cell? a = some v) : W.cell? a = some v := (hb.cell (World.block_lt_of_cell? _ _ h)).trans h
theorem tab_kept {w W : World} (hb : Below w.heap.size w W) (h : Lib.TabIs Tryz.prog w "internal/strconv.uint64pow10" .u64 Lib.pow10Tab) : Lib.TabIs Tryz.prog W "internal/strconv.uint64pow10" .u64 Lib.pow10Tab := by
  unfold Lib.TabIs World.var? at h ⊢
  cases hg : Program.globalNamed Tryz.prog "internal/strconv.uint64pow10" with
  | none => rw [hg] at h; simp at h
  | some g =>
    rw [hg] at h
    simp only [Option.bind_some] at h ⊢
    by_cases hlt : g < w.heap.size
    · rw [hb.block g hlt]; exact h
    · rw [Array.getElem?_eq_none (by omega)] at h; simp at h
theorem Tab10.below {w W : World} (h : Tab10 w) (hb : Below w.heap.size w W) : Tab10 W := by
  refine Tab10.mk (tab_kept hb h.pow) (cell_kept hb h.hex) ?_ ?_ ?_
  · obtain ⟨m, e⟩ := h.len; exact ⟨m, cell_kept hb e⟩
  · obtain ⟨m, e, z⟩ := h.syn; exact ⟨m, cell_kept hb e, z⟩
  · obtain ⟨m, e, z⟩ := h.ran; exact ⟨m, cell_kept hb e, z⟩
theorem Tab10.alloc {w : World} (h : Tab10 w) (o : Obj) : Tab10 (w.alloc o) := h.below ((Below.refl _ w).alloc (Nat.le_refl _) o)
theorem Tab10.drew {w : World} (h : Tab10 w) : Tab10 w.drew := ⟨h.1, h.2, h.3, h.4, h.5⟩
theorem Tab10.drewN {w : World} (h : Tab10 w) (n : Nat) : Tab10 (w.drewN n) := ⟨h.1, h.2, h.3, h.4, h.5⟩
/-- block b holds the cells cs (for the functions on baths that are walked by hand) -/
def HBx (W : World) (b : Nat) (T : TypeId) (cs : List Value) : Prop := W.heap[b]? = some (.cells cs.toArray T (0, 0))
theorem HBx.below {W W1 : World} {b : Nat} {T : TypeId} {cs : List Value} (h : HBx W b T cs) (hb : Below W.heap.size W W1) : HBx W1 b T cs := blk_below h hb
theorem HBx.row {W : World} {b : Nat} {T : TypeId} {cs : List Value} (h : HBx W b T cs) (ds : List Value) : HBx (W.setRow b ds.toArray) b T ds := setRow_heap W b _ _ T _ h
theorem HBx.cell {W : World} {b : Nat} {T : TypeId} {cs : List Value} (h : HBx W b T cs) (i : Nat) {v : Value} (hv : cs[i]? = some v) : W.cell? ⟨b, i, none⟩ = some v := by
  rw [cell_of_row W b i _ T (0, 0) h]
  simpa using hv
theorem HBx.frozen {W : World} {b : Nat} {T : TypeId} {cs : List Value} (h : HBx W b T cs) (i : Nat) : W.frozen? ⟨b, i, none⟩ = false := blk_frozen h i
theorem HBx.set {W : World} {b : Nat} {T : TypeId} {cs : List Value} (h : HBx W b T cs) (i : Nat) (v : Value) : HBx (W.setCell ⟨b, i, none⟩ v) b T (cs.set i v) := by
  unfold HBx
  rw [heap_setCell_same W b i _ T v h]
  simp
theorem HBx.setOther {W : World} {b c : Nat} {T : TypeId} {cs : List Value} (h : HBx W b T cs) (hne : b ≠ c) (i : Nat) (v : Value) : HBx (W.setCell ⟨c, i, none⟩ v) b T cs := (heap_setCell_other W ⟨c, i, none⟩ b v hne).trans h
theorem hx_below {w W : World} {g : Nat} (h : Below w.heap.size w W) (hg : w.heap.size ≤ g) (cs : Array Value) : Below w.heap.size w (W.setRow g cs) :=
  h.trans ⟨rfl, rfl, rfl, by simp [World.setRow], fun k hk => setRow_other W g k cs (by omega)⟩
theorem hx_one (w : World) (T : TypeId) (d : List Value) : HBx (w.alloc (.cells d.toArray T)) w.heap.size T d ∧ Below w.heap.size w (w.alloc (.cells d.toArray T)) := ⟨heap_alloc_new _ _, (Below.refl _ w).alloc (Nat.le_refl _) _⟩
theorem hx_load {P : Program} {ops : Array Oper} {rest : List Oper} {o : Oper} {a : Act} {Q : Exit → Act → World → Prop} {W : World} (hgd : o.guard = none) (ty : TypeId) (x : Operand) (ho : o.op = .load ty x) (g : Nat) (hx : a.eval x = .pointer (some ⟨g, 0, none⟩)) (T : TypeId) (cs : List Value) (hA : HBx W g T cs)
    (d : TypeDesc) (hu : P.underlying ty = some d) (hd : (match d with | .struct _ | .array _ _ => true | _ => false) = true) (hi : (P.info? ty).map (·.size) = some cs.length)
    (h : wpList P ops Q rest (a.put o.dst (.agg cs.toArray)) W) : wpList P ops Q (o :: rest) a W :=
  wpList_load_row hgd ty x ho g hx T _ (0, 0) d hA hu hd (by rw [hi]; simp) h
theorem hx_store {P : Program} {ops : Array Oper} {rest : List Oper} {o : Oper} {a : Act} {Q : Exit → Act → World → Prop} {W : World} (hgd : o.guard = none) (ty : TypeId) (x y : Operand) (ho : o.op = .store ty x y) (g : Nat) (ds : List Value) (hx : a.eval x = .pointer (some ⟨g, 0, none⟩)) (hy : a.eval y = .agg ds.toArray)
    (T : TypeId) (cs : List Value) (hA : HBx W g T cs) (hi : (P.info? ty).map (·.size) = some ds.length) (hn : cs.length = ds.length) (h1 : ds.all (·.oneCell') = true)
    (h : wpList P ops Q rest (a.put o.dst undef) (W.setRow g ds.toArray)) : wpList P ops Q (o :: rest) a W :=
  wpList_store_row hgd ty x y ho g _ hx hy T _ hA (by rw [hi]; simp) (by simpa using hn) (by simpa using h1) h
theorem blk_c {W : World} {g : Nat} {cs : Array Value} {t : TypeId} (hb : W.heap[g]? = some (.cells cs t (0, 0))) (i : Nat) {v : Value} (h : cs[i]? = some v) : W.cell? ⟨g, i, none⟩ = some v := (blk_cell hb i).trans h

end Go.Proofs.YtjonocgmofcieaaGreatDoor.Q
