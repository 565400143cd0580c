-- Arrays of whole numbers: what a block that holds one says; the walk's arms for a whole array's load and store; an array's index.
import Derived.Test.YticnajjbmdfidaaQx0
import Derived.Deep.MidRow
namespace Go.Proofs.Yticnajjbmdfidaa.Q
open Go.RowKit Go.Proofs.YticnajjbmdfidaaW.PrintWords Go.Proofs.YticnajjbmdfidaaW.PrintLast Go.Proofs.YticnajjbmdfidaaW.PrintMore
set_option linter.unusedVariables false
set_option linter.unusedSimpArgs false
theorem xalloc3_0 (w : World) (A B C : Obj) : (((w.alloc A).alloc B).alloc C).heap[w.heap.size]? = some A := by
  rw [heap_alloc_old _ C (by simp; omega), heap_alloc_old _ B (by simp)]
  exact heap_alloc_new _ _
theorem xalloc3_1 (w : World) (A B C : Obj) : (((w.alloc A).alloc B).alloc C).heap[w.heap.size + 1]? = some B := by
  rw [heap_alloc_old _ C (by simp)]
  exact heap_alloc2_new w A B
theorem xalloc3_2 (w : World) (A B C : Obj) : (((w.alloc A).alloc B).alloc C).heap[w.heap.size + 2]? = some C := by
  have h := heap_alloc2_new (w.alloc A) B C
  rwa [show (w.alloc A).heap.size + 1 = w.heap.size + 2 by simp] at h
theorem xalloc3_below (w : World) (A B C : Obj) : Below w.heap.size w (((w.alloc A).alloc B).alloc C) :=
  (((Below.refl _ _).alloc (Nat.le_refl _) A).alloc (by simp) B).alloc (by simp; omega) C
/-- block b holds the array xs -/
def ArrAt (W : World) (b : Nat) (T : TypeId) (k : IntKind) (xs : List Int) : Prop := W.heap[b]? = some (.cells (nums k xs).toArray T (0, 0))
theorem ArrAt.cell {W : World} {b : Nat} {T : TypeId} {k : IntKind} {xs : List Int} (h : ArrAt W b T k xs) {i : Int} (h0 : 0 ≤ i) (h1 : i < xs.length) : W.cell? ⟨b, i.toNat, none⟩ = some (.int k (rd xs i)) := by
  rw [cell_of_row W b i.toNat _ T (0, 0) h]
  simp [nums, rd, List.getElem?_eq_getElem (show i.toNat < xs.length by omega), List.getD_eq_getElem?_getD]
theorem ArrAt.frozen {W : World} {b : Nat} {T : TypeId} {k : IntKind} {xs : List Int} (h : ArrAt W b T k xs) (j : Nat) : W.frozen? ⟨b, j, none⟩ = false := frozen_of_row W b j _ T h
theorem ArrAt.set {W : World} {b : Nat} {T : TypeId} {k : IntKind} {xs : List Int} (h : ArrAt W b T k xs) (i x : Int) : ArrAt (W.setCell ⟨b, i.toNat, none⟩ (.int k x)) b T k (xs.set i.toNat x) := by
  unfold ArrAt
  rw [heap_setCell_same W b i.toNat _ T _ h]
  simp [nums, List.map_set]
theorem ArrAt.other {W : World} {b c : Nat} {T : TypeId} {k : IntKind} {xs : List Int} (h : ArrAt W b T k xs) (hne : b ≠ c) (j : Nat) (v : Value) : ArrAt (W.setCell ⟨c, j, none⟩ v) b T k xs :=
  (heap_setCell_other W ⟨c, j, none⟩ b v hne).trans h
theorem ArrAt.below {W W1 : World} {b : Nat} {T : TypeId} {k : IntKind} {xs : List Int} (h : ArrAt W b T k xs) (hb : Below W.heap.size W W1) : ArrAt W1 b T k xs := blk_below h hb
theorem ArrAt.alloc {W : World} {b : Nat} {T : TypeId} {k : IntKind} {xs : List Int} (h : ArrAt W b T k xs) (o : Obj) : ArrAt (W.alloc o) b T k xs := (heap_alloc_old _ o (blk_lt h)).trans h
theorem ArrAt.row {W : World} {b : Nat} {T : TypeId} {k : IntKind} {xs ys : List Int} (h : ArrAt W b T k xs) : ArrAt (W.setRow b (nums k ys).toArray) b T k ys := setRow_heap W b _ _ T _ h
theorem ArrAt.rowOther {W : World} {b c : Nat} {T : TypeId} {k : IntKind} {xs : List Int} (h : ArrAt W b T k xs) (hne : b ≠ c) (cs : Array Value) : ArrAt (W.setRow c cs) b T k xs := by
  unfold ArrAt
  rw [setRow_other W c b cs (by omega)]
  exact h
theorem ArrAt.lt {W : World} {b : Nat} {T : TypeId} {k : IntKind} {xs : List Int} (h : ArrAt W b T k xs) : b < W.heap.size := blk_lt h
theorem ArrAt.new (w : World) (T : TypeId) (k : IntKind) (xs : List Int) : ArrAt (w.alloc (.cells (nums k xs).toArray T)) w.heap.size T k xs := heap_alloc_new _ _
theorem arr_idx {k : IntKind} {xs : List Int} {i : Int} (h0 : 0 ≤ i) (h1 : i < xs.length) : (nums k xs).toArray[i.toNat]? = some (.int k (rd xs i)) := by
  simp [nums, rd, List.getElem?_eq_getElem (show i.toNat < xs.length by omega), List.getD_eq_getElem?_getD]
theorem arr_index {P : Program} {ty e : TypeId} {n : Nat} {k : IntKind} {xs : List Int} (h : P.underlying ty = some (.array n e)) (h2 : ∀ w, (sizeOf e).run P w = .ok 1 w) (h3 : ∀ w, (isAgg e).run P w = .ok false w)
    {i : Int} (h0 : 0 ≤ i) (h1 : i < xs.length) (hn : xs.length = n) (w : World) :
    (Instr.index ty (.agg (nums k xs).toArray) (.int .i64 i)).run P w = .ok (.int k (rd xs i)) w := by
  have hx : (nums k xs)[i.toNat]? = some (.int k (rd xs i)) := by simpa using arr_idx (k := k) h0 h1
  have hb : 0 ≤ i ∧ i < (n : Int) := by omega
  simp [Instr.index, run_underlying h, asIntOf, go_sem, hb, h2, h3, hx]
theorem arr_within (x a b : Int) : (if x ≥ a then some (decide (x ≤ b)) else some false) = some (decide (a ≤ x ∧ x ≤ b)) := by
  split
  · congr 1; exact decide_eq_decide.mpr ⟨fun h => ⟨by omega, h⟩, fun h => h.2⟩
  · congr 1; exact (decide_eq_false (by omega)).symm
theorem arr_rd {P : Int → Prop} {xs : List Int} (h : ∀ x ∈ xs, P x) {i : Int} (h0 : 0 ≤ i) (h1 : i < xs.length) : P (rd xs i) := by
  rw [show rd xs i = xs[i.toNat]'(by omega) by unfold rd; rw [List.getD_eq_getElem?_getD, List.getElem?_eq_getElem (by omega)]; rfl]
  exact h _ (List.getElem_mem _)
theorem arr_all {P : Int → Prop} [DecidablePred P] {xs : List Int} : (decide (∀ x ∈ xs, P x)) = true ↔ ∀ i : Int, 0 ≤ i → i < xs.length → P (rd xs i) := by
  rw [decide_eq_true_eq]
  constructor
  · exact fun h i h0 h1 => arr_rd h h0 h1
  · intro h x hx
    obtain ⟨j, hj, rfl⟩ := List.getElem_of_mem hx
    have := h (j : Int) (by omega) (by omega)
    unfold rd at this
    rw [List.getD_eq_getElem?_getD] at this
    simpa [hj] using this
section
variable {P : Program} {ops : Array Oper} {rest : List Oper} {o : Oper} {a : Act} {Q : Exit → Act → World → Prop} {W : World}
theorem arr_load (hgd : o.guard = none) (ty : TypeId) (x : Operand) (ho : o.op = .load ty x) (g : Nat) (hx : a.eval x = .pointer (some ⟨g, 0, none⟩)) (T : TypeId) (k : IntKind) (xs : List Int) (hA : ArrAt W g T k xs)
    (d : TypeDesc) (hu : P.underlying ty = some d) (hd : (match d with | .struct _ | .array _ _ => true | _ => false) = true) (n : Nat) (hi : (P.info? ty).map (·.size) = some n) (hn : xs.length = n)
    (h : wpList P ops Q rest (a.put o.dst (.agg (nums k xs).toArray)) W) : wpList P ops Q (o :: rest) a W :=
  wpList_load_row hgd ty x ho g hx T _ (0, 0) d hA hu hd (by rw [hi, ← hn]; simp [nums]) h
theorem arr_loadG (hw : Region.wanted o (yielded ops a.tmps) = true) (ty : TypeId) (x : Operand) (ho : o.op = .load ty x) (g : Nat) (hx : a.eval x = .pointer (some ⟨g, 0, none⟩)) (T : TypeId) (k : IntKind) (xs : List Int) (hA : ArrAt W g T k xs)
    (d : TypeDesc) (hu : P.underlying ty = some d) (hd : (match d with | .struct _ | .array _ _ => true | _ => false) = true) (n : Nat) (hi : (P.info? ty).map (·.size) = some n) (hn : xs.length = n)
    (h : wpList P ops Q rest (a.put o.dst (.agg (nums k xs).toArray)) W) : wpList P ops Q (o :: rest) a W := by
  unfold wpList
  rw [if_pos hw]
  exact .inl (wp_load_row ty x ho g hx T _ (0, 0) d hA hu hd (by rw [hi, ← hn]; simp [nums]) h)
theorem arr_store (hgd : o.guard = none) (ty : TypeId) (x y : Operand) (ho : o.op = .store ty x y) (g : Nat) (k : IntKind) (ys : List Int) (hx : a.eval x = .pointer (some ⟨g, 0, none⟩)) (hy : a.eval y = .agg (nums k ys).toArray)
    (T : TypeId) (xs : List Int) (hA : ArrAt W g T k xs) (n : Nat) (hi : (P.info? ty).map (·.size) = some n) (hn : xs.length = n) (hm : ys.length = n)
    (h : wpList P ops Q rest (a.put o.dst undef) (W.setRow g (nums k ys).toArray)) : wpList P ops Q (o :: rest) a W :=
  wpList_store_row hgd ty x y ho g _ hx hy T _ hA (by rw [hi, ← hm]; simp [nums]) (by simp [nums, hn, hm]) (by simp [nums]; intros; rfl) h
end
theorem below_row {w W : World} {g : Nat} (h : Below w.heap.size w W) (hg : w.heap.size ≤ g) (cs : Array Value) : Below w.heap.size w (W.setRow g cs) :=
  h.trans ⟨rfl, rfl, rfl, by simp [World.setRow], fun k hk => setRow_other W g k cs (by omega)⟩
def zer (n : Nat) : List Int := List.replicate n 0
theorem zer_len (n : Nat) : (zer n).length = n := by simp [zer]
theorem arr_take_set {xs ys : List Int} {i : Int} (h0 : 0 ≤ i) (h1 : i < ys.length) (h2 : i < xs.length) (h : ys.take i.toNat = xs.take i.toNat) : (ys.set i.toNat (rd xs i)).take (i + 1).toNat = xs.take (i + 1).toNat := by
  rw [show (i + 1).toNat = i.toNat + 1 by omega, List.take_succ_eq_append_getElem (by simp; omega), List.take_succ_eq_append_getElem (by omega), List.getElem_set_self, List.take_set_of_le (by omega), h]
  congr 2
  unfold rd
  rw [List.getD_eq_getElem?_getD, List.getElem?_eq_getElem (by omega)]; rfl
theorem arr_ext {xs ys : List Int} (h : xs.length = ys.length) (he : ∀ j : Int, 0 ≤ j → j < xs.length → rd xs j = rd ys j) : xs = ys := by
  apply List.ext_getElem h
  intro j hj hj'
  have := he j (by omega) (by omega)
  unfold rd at this
  rw [List.getD_eq_getElem?_getD, List.getD_eq_getElem?_getD] at this
  simpa [hj, hj'] using this
theorem arr_new2a (w : World) (T : TypeId) (k : IntKind) (xs : List Int) (B : Obj) : ArrAt ((w.alloc (.cells (nums k xs).toArray T)).alloc B) w.heap.size T k xs := by
  unfold ArrAt
  rw [heap_alloc_old _ B (by simp)]
  exact heap_alloc_new _ _
theorem arr_new2b (w : World) (A : Obj) (T : TypeId) (k : IntKind) (xs : List Int) : ArrAt ((w.alloc A).alloc (.cells (nums k xs).toArray T)) (w.heap.size + 1) T k xs := heap_alloc2_new w A _
theorem arr_below2 (w : World) (A B : Obj) : Below w.heap.size w ((w.alloc A).alloc B) := ((Below.refl _ _).alloc (Nat.le_refl _) A).alloc (by simp) B
/-- the array whose cell k is xs' cell p k -/
def perm (n : Nat) (p : Int → Int) (xs : List Int) : List Int := (List.range n).map (fun k : Nat => rd xs (p (k : Int)))
theorem perm_len (n : Nat) (p : Int → Int) (xs : List Int) : (perm n p xs).length = n := by simp [perm]
theorem rd_perm {n : Nat} {p : Int → Int} {xs : List Int} {i : Int} (h0 : 0 ≤ i) (h1 : i < n) : rd (perm n p xs) i = rd xs (p i) := by
  unfold perm
  rw [show rd ((List.range n).map (fun k : Nat => rd xs (p (k : Int)))) i = ((List.range n).map (fun k : Nat => rd xs (p (k : Int))))[i.toNat]'(by simp; omega) by unfold rd; rw [List.getD_eq_getElem?_getD, List.getElem?_eq_getElem (by simp; omega)]; rfl]
  simp [show ((i.toNat : Nat) : Int) = i by omega]
theorem ArrAt.newAt {W : World} {g : Nat} (hg : W.heap.size = g) (T : TypeId) (k : IntKind) (xs : List Int) : ArrAt (W.alloc (.cells (nums k xs).toArray T)) g T k xs := by subst hg; exact heap_alloc_new _ _
theorem blk_newAt {W : World} {g : Nat} (hg : W.heap.size = g) (cs : Array Value) (T : TypeId) : (W.alloc (.cells cs T)).heap[g]? = some (.cells cs T (0, 0)) := by subst hg; exact heap_alloc_new _ _
theorem blk_alloc1 {W : World} {g : Nat} {ob : Obj} (h : W.heap[g]? = some ob) (o : Obj) : (W.alloc o).heap[g]? = some ob := (heap_alloc_old _ o (blk_lt h)).trans h
theorem blk_row {W : World} {g c : Nat} {ob : Obj} (h : W.heap[g]? = some ob) (hne : g ≠ c) (cs : Array Value) : (W.setRow c cs).heap[g]? = some ob := by
  rw [setRow_other W c g cs (by omega)]; exact h
theorem ArrAt.range {W : World} {b : Nat} {T : TypeId} {k : IntKind} {xs : List Int} (h : ArrAt W b T k xs) : W.rangeAt b 0 (nums k xs) := by
  intro j v hv
  rw [cell_of_row W b (0 + j) _ T (0, 0) h]
  simpa using hv
theorem range_below {W W1 : World} {b o : Nat} {cs : List Value} (hb : Below W.heap.size W W1) (h : W.rangeAt b o cs) (hl : b < W.heap.size) : W1.rangeAt b o cs :=
  fun j v hv => by rw [hb.cell hl]; exact h j v hv
end Go.Proofs.Yticnajjbmdfidaa.Q
