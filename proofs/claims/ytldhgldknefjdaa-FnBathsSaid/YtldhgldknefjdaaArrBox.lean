-- Structs in boxes: what a block that holds one says; the walk's arms for a whole struct's load and store; a drawn region over any world.
import Derived.Test.YtldhgldknefjdaaArrKit
namespace Go.Proofs.Ytldhgldknefjdaa.Q
open Go.RowKit Go.Proofs.YtldhgldknefjdaaW.PrintWords Go.Proofs.YtldhgldknefjdaaW.PrintLast Go.Proofs.YtldhgldknefjdaaW.PrintMore
set_option linter.unusedVariables false
set_option linter.unusedSimpArgs false
/-- block b holds the cells cs -/
def BoxAt (W : World) (b : Nat) (T : TypeId) (cs : List Value) : Prop := W.heap[b]? = some (.cells cs.toArray T (0, 0))
section
variable {W W1 : World} {b c : Nat} {T : TypeId} {cs ds : List Value}
theorem BoxAt.below (h : BoxAt W b T cs) (hb : Below W.heap.size W W1) : BoxAt W1 b T cs := blk_below h hb
theorem BoxAt.drew (h : BoxAt W b T cs) : BoxAt W.drew b T cs := blk_drew h
theorem BoxAt.alloc (h : BoxAt W b T cs) (o : Obj) : BoxAt (W.alloc o) b T cs := (heap_alloc_old _ o (blk_lt h)).trans h
theorem BoxAt.row (h : BoxAt W b T cs) (ds : List Value) : BoxAt (W.setRow b ds.toArray) b T ds := setRow_heap W b _ _ T _ h
theorem BoxAt.rowOther (h : BoxAt W b T cs) (hne : b ≠ c) (xs : Array Value) : BoxAt (W.setRow c xs) b T cs := by
  unfold BoxAt
  rw [setRow_other W c b xs (by omega)]
  exact h
theorem BoxAt.lt (h : BoxAt W b T cs) : b < W.heap.size := blk_lt h
theorem BoxAt.new (w : World) (T : TypeId) (cs : List Value) : BoxAt (w.alloc (.cells cs.toArray T)) w.heap.size T cs := heap_alloc_new _ _
theorem BoxAt.range (h : BoxAt W b T cs) : W.rangeAt b 0 cs := by
  intro j v hv
  rw [cell_of_row W b (0 + j) _ T (0, 0) h]
  simpa using hv
theorem BoxAt.cell (h : BoxAt W b T cs) (i : Nat) {v : Value} (hv : cs[i]? = some v) : W.cell? ⟨b, i, none⟩ = some v := by
  rw [cell_of_row W b i _ T (0, 0) h]
  simpa using hv
end
theorem box_two (w : World) (T U : TypeId) (d b : List Value) :
    BoxAt ((w.alloc (.cells d.toArray T)).alloc (.cells b.toArray U)) w.heap.size T d ∧ BoxAt ((w.alloc (.cells d.toArray T)).alloc (.cells b.toArray U)) (w.heap.size + 1) U b ∧ Below w.heap.size w ((w.alloc (.cells d.toArray T)).alloc (.cells b.toArray U)) :=
  ⟨(BoxAt.new w T d).alloc _, heap_alloc2_new w _ _, arr_below2 w _ _⟩
theorem box_one (w : World) (T : TypeId) (d : List Value) : BoxAt (w.alloc (.cells d.toArray T)) w.heap.size T d ∧ Below w.heap.size w (w.alloc (.cells d.toArray T)) :=
  ⟨BoxAt.new w T d, (Below.refl _ w).alloc (Nat.le_refl _) _⟩
section
variable {P : Program} {ops : Array Oper} {rest : List Oper} {o : Oper} {a : Act} {Q : Exit → Act → World → Prop} {W : World}
theorem box_load (hgd : o.guard = none) (ty : TypeId) (x : Operand) (ho : o.op = .load ty x) (g : Nat) (hx : a.eval x = .pointer (some ⟨g, 0, none⟩)) (T : TypeId) (cs : List Value) (hA : BoxAt W g T cs)
    (d : TypeDesc) (hu : P.underlying ty = some d) (hd : (match d with | .struct _ | .array _ _ => true | _ => false) = true) (hi : (P.info? ty).map (·.size) = some cs.length)
    (h : wpList P ops Q rest (a.put o.dst (.agg cs.toArray)) W) : wpList P ops Q (o :: rest) a W :=
  wpList_load_row hgd ty x ho g hx T _ (0, 0) d hA hu hd (by rw [hi]; simp) h
theorem box_loadG (hw : Region.wanted o (yielded ops a.tmps) = true) (ty : TypeId) (x : Operand) (ho : o.op = .load ty x) (g : Nat) (hx : a.eval x = .pointer (some ⟨g, 0, none⟩)) (T : TypeId) (cs : List Value) (hA : BoxAt W g T cs)
    (d : TypeDesc) (hu : P.underlying ty = some d) (hd : (match d with | .struct _ | .array _ _ => true | _ => false) = true) (hi : (P.info? ty).map (·.size) = some cs.length)
    (h : wpList P ops Q rest (a.put o.dst (.agg cs.toArray)) W) : wpList P ops Q (o :: rest) a W := by
  unfold wpList
  rw [if_pos hw]
  exact .inl (wp_load_row ty x ho g hx T _ (0, 0) d hA hu hd (by rw [hi]; simp) h)
theorem box_store (hgd : o.guard = none) (ty : TypeId) (x y : Operand) (ho : o.op = .store ty x y) (g : Nat) (ds : List Value) (hx : a.eval x = .pointer (some ⟨g, 0, none⟩)) (hy : a.eval y = .agg ds.toArray)
    (T : TypeId) (cs : List Value) (hA : BoxAt W g T cs) (hi : (P.info? ty).map (·.size) = some ds.length) (hn : cs.length = ds.length) (h1 : ds.all (·.oneCell') = true)
    (h : wpList P ops Q rest (a.put o.dst undef) (W.setRow g ds.toArray)) : wpList P ops Q (o :: rest) a W :=
  wpList_store_row hgd ty x y ho g _ hx hy T _ hA (by rw [hi]; simp) (by simpa using hn) (by simpa using h1) h
theorem box_wp_store {K : Act → World → Prop} (ty : TypeId) (x y : Operand) (ho : o.op = .store ty x y) (g : Nat) (ds : List Value) (hx : a.eval x = .pointer (some ⟨g, 0, none⟩)) (hy : a.eval y = .agg ds.toArray)
    (T : TypeId) (cs : List Value) (hA : BoxAt W g T cs) (hi : (P.info? ty).map (·.size) = some ds.length) (hn : cs.length = ds.length) (h1 : ds.all (·.oneCell') = true)
    (h : K (a.put o.dst undef) (W.setRow g ds.toArray)) : o.wp P a W K Q :=
  wp_store_row ty x y ho g _ hx hy T _ hA (by rw [hi]; simp) (by simpa using hn) (by simpa using h1) h
end
/-- a drawn region: what is held of the world is held of any world in its place -/
theorem region_any {P : Program} {ops : Array Oper} {Q : Exit → Act → World → Prop} {id : Nat} {a : Act} {w : World} {S : World → Prop} (hm : P.follows .mixedOrders = true) (hS : S w.drew) (h : ∀ V : World, S V → wpAnyH P .any ops Q S ops.size (Array.replicate ops.size false) a V) : (Code.region id ops true).wp P Q a w := wp_region_held_drew hm hS (fun hs => h _ hs)
end Go.Proofs.Ytldhgldknefjdaa.Q
