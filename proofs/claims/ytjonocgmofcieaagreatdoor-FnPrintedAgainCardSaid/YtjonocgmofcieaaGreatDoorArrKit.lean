-- Arrays of whole numbers: what a block that holds one says; the walk's arms for a whole array's load and store; an array's index.
import Derived.Test.YtjonocgmofcieaaGreatDoorQx0
import Derived.Deep.MidRow
import Derived.Laws.Bits64b
import Derived.ChangeKeysEq
import Derived.WalkKit
import Derived.ProofKit
import Derived.OpenShut
import Derived.ShutString
import Derived.ChangeOld
import Derived.Below
import Derived.SizedLaws
import Derived.Lib.SmallJoins
import Derived.Deep.Slices
import Derived.Deep.Fields
import Derived.ChangeSame
namespace Go.Proofs.YtjonocgmofcieaaGreatDoor.Q
open Go.RowKit Go.Proofs.YtjonocgmofcieaaGreatDoorW.PrintWords Go.Proofs.YtjonocgmofcieaaGreatDoorW.PrintLast Go.Proofs.YtjonocgmofcieaaGreatDoorW.PrintMore
set_option linter.unusedVariables false
set_option linter.unusedSimpArgs false
theorem xalloc3_0 (w : World) (A B C : Obj) : (((w.alloc A).alloc B).alloc C).heap[w.heap.size]? = some A := by
  rw [heap_alloc_old _ C (by simp; omega), heap_alloc_old _ B (by simp)]
  exact heap_alloc_new _ _
theorem xalloc3_1 (w : World) (A B C : Obj) : (((w.alloc A).alloc B).alloc C).heap[w.heap.size + 1]? = some B := by
  rw [heap_alloc_old _ C (by simp)]
  exact heap_alloc2_new w A B
theorem xalloc3_2 (w : World) (A B C : Obj) : (((w.alloc A).alloc B).alloc C).heap[w.heap.size + 2]? = some C := by
  have h := heap_alloc2_new (w.alloc A) B C
  rwa [show (w.alloc A).heap.size + 1 = w.heap.size + 2 by simp] at h
theorem xalloc3_below (w : World) (A B C : Obj) : Below w.heap.size w (((w.alloc A).alloc B).alloc C) :=
  (((Below.refl _ _).alloc (Nat.le_refl _) A).alloc (by simp) B).alloc (by simp; omega) C
/-- block b holds the array xs -/
def ArrAt (W : World) (b : Nat) (T : TypeId) (k : IntKind) (xs : List Int) : Prop := W.heap[b]? = some (.cells (nums k xs).toArray T (0, 0))
theorem ArrAt.cell {W : World} {b : Nat} {T : TypeId} {k : IntKind} {xs : List Int} (h : ArrAt W b T k xs) {i : Int} (h0 : 0 ≤ i) (h1 : i < xs.length) : W.cell? ⟨b, i.toNat, none⟩ = some (.int k (rd xs i)) := by
  rw [cell_of_row W b i.toNat _ T (0, 0) h]
  simp [nums, rd, List.getElem?_eq_getElem (show i.toNat < xs.length by omega), List.getD_eq_getElem?_getD]
theorem ArrAt.frozen {W : World} {b : Nat} {T : TypeId} {k : IntKind} {xs : List Int} (h : ArrAt W b T k xs) (j : Nat) : W.frozen? ⟨b, j, none⟩ = false := frozen_of_row W b j _ T h
theorem ArrAt.set {W : World} {b : Nat} {T : TypeId} {k : IntKind} {xs : List Int} (h : ArrAt W b T k xs) (i x : Int) : ArrAt (W.setCell ⟨b, i.toNat, none⟩ (.int k x)) b T k (xs.set i.toNat x) := by
  unfold ArrAt
  rw [heap_setCell_same W b i.toNat _ T _ h]
  simp [nums, List.map_set]
theorem ArrAt.other {W : World} {b c : Nat} {T : TypeId} {k : IntKind} {xs : List Int} (h : ArrAt W b T k xs) (hne : b ≠ c) (j : Nat) (v : Value) : ArrAt (W.setCell ⟨c, j, none⟩ v) b T k xs :=
  (heap_setCell_other W ⟨c, j, none⟩ b v hne).trans h
theorem ArrAt.below {W W1 : World} {b : Nat} {T : TypeId} {k : IntKind} {xs : List Int} (h : ArrAt W b T k xs) (hb : Below W.heap.size W W1) : ArrAt W1 b T k xs := blk_below h hb
theorem ArrAt.alloc {W : World} {b : Nat} {T : TypeId} {k : IntKind} {xs : List Int} (h : ArrAt W b T k xs) (o : Obj) : ArrAt (W.alloc o) b T k xs := (heap_alloc_old _ o (blk_lt h)).trans h
theorem ArrAt.row {W : World} {b : Nat} {T : TypeId} {k : IntKind} {xs ys : List Int} (h : ArrAt W b T k xs) : ArrAt (W.setRow b (nums k ys).toArray) b T k ys := setRow_heap W b _ _ T _ h
theorem ArrAt.rowOther {W : World} {b c : Nat} {T : TypeId} {k : IntKind} {xs : List Int} (h : ArrAt W b T k xs) (hne : b ≠ c) (cs : Array Value) : ArrAt (W.setRow c cs) b T k xs := by
  unfold ArrAt
  rw [setRow_other W c b cs (by omega)]
  exact h
theorem ArrAt.lt {W : World} {b : Nat} {T : TypeId} {k : IntKind} {xs : List Int} (h : ArrAt W b T k xs) : b < W.heap.size := blk_lt h
theorem ArrAt.new (w : World) (T : TypeId) (k : IntKind) (xs : List Int) : ArrAt (w.alloc (.cells (nums k xs).toArray T)) w.heap.size T k xs := heap_alloc_new _ _
theorem arr_idx {k : IntKind} {xs : List Int} {i : Int} (h0 : 0 ≤ i) (h1 : i < xs.length) : (nums k xs).toArray[i.toNat]? = some (.int k (rd xs i)) := by
  simp [nums, rd, List.getElem?_eq_getElem (show i.toNat < xs.length by omega), List.getD_eq_getElem?_getD]
theorem arr_index {P : Program} {ty e : TypeId} {n : Nat} {k : IntKind} {xs : List Int} (h : P.underlying ty = some (.array n e)) (h2 : ∀ w, (sizeOf e).run P w = .ok 1 w) (h3 : ∀ w, (isAgg e).run P w = .ok false w)
    {i : Int} (h0 : 0 ≤ i) (h1 : i < xs.length) (hn : xs.length = n) (w : World) :
    (Instr.index ty (.agg (nums k xs).toArray) (.int .i64 i)).run P w = .ok (.int k (rd xs i)) w := by
  have hx : (nums k xs)[i.toNat]? = some (.int k (rd xs i)) := by simpa using arr_idx (k := k) h0 h1
  have hb : 0 ≤ i ∧ i < (n : Int) := by omega
  simp [Instr.index, run_underlying h, asIntOf, go_sem, hb, h2, h3, hx]
theorem arr_within (x a b : Int) : (if x ≥ a then some (decide (x ≤ b)) else some false) = some (decide (a ≤ x ∧ x ≤ b)) := by
  split
  · congr 1; exact decide_eq_decide.mpr ⟨fun h => ⟨by omega, h⟩, fun h => h.2⟩
  · congr 1; exact (decide_eq_false (by omega)).symm
theorem arr_rd {P : Int → Prop} {xs : List Int} (h : ∀ x ∈ xs, P x) {i : Int} (h0 : 0 ≤ i) (h1 : i < xs.length) : P (rd xs i) := by
  rw [show rd xs i = xs[i.toNat]'(by omega) by unfold rd; rw [List.getD_eq_getElem?_getD, List.getElem?_eq_getElem (by omega)]; rfl]
  exact h _ (List.getElem_mem _)
theorem arr_all {P : Int → Prop} [DecidablePred P] {xs : List Int} : (decide (∀ x ∈ xs, P x)) = true ↔ ∀ i : Int, 0 ≤ i → i < xs.length → P (rd xs i) := by
  rw [decide_eq_true_eq]
  constructor
  · exact fun h i h0 h1 => arr_rd h h0 h1
  · intro h x hx
    obtain ⟨j, hj, rfl⟩ := List.getElem_of_mem hx
    have := h (j : Int) (by omega) (by omega)
    unfold rd at this
    rw [List.getD_eq_getElem?_getD] at this
    simpa [hj] using this
section
variable {P : Program} {ops : Array Oper} {rest : List Oper} {o : Oper} {a : Act} {Q : Exit → Act → World → Prop} {W : World}
theorem arr_load (hgd : o.guard = none) (ty : TypeId) (x : Operand) (ho : o.op = .load ty x) (g : Nat) (hx : a.eval x = .pointer (some ⟨g, 0, none⟩)) (T : TypeId) (k : IntKind) (xs : List Int) (hA : ArrAt W g T k xs)
    (d : TypeDesc) (hu : P.underlying ty = some d) (hd : (match d with | .struct _ | .array _ _ => true | _ => false) = true) (n : Nat) (hi : (P.info? ty).map (·.size) = some n) (hn : xs.length = n)
    (h : wpList P ops Q rest (a.put o.dst (.agg (nums k xs).toArray)) W) : wpList P ops Q (o :: rest) a W :=
  wpList_load_row hgd ty x ho g hx T _ (0, 0) d hA hu hd (by rw [hi, ← hn]; simp [nums]) h
theorem arr_loadG (hw : Region.wanted o (yielded ops a.tmps) = true) (ty : TypeId) (x : Operand) (ho : o.op = .load ty x) (g : Nat) (hx : a.eval x = .pointer (some ⟨g, 0, none⟩)) (T : TypeId) (k : IntKind) (xs : List Int) (hA : ArrAt W g T k xs)
    (d : TypeDesc) (hu : P.underlying ty = some d) (hd : (match d with | .struct _ | .array _ _ => true | _ => false) = true) (n : Nat) (hi : (P.info? ty).map (·.size) = some n) (hn : xs.length = n)
    (h : wpList P ops Q rest (a.put o.dst (.agg (nums k xs).toArray)) W) : wpList P ops Q (o :: rest) a W := by
  unfold wpList
  rw [if_pos hw]
  exact .inl (wp_load_row ty x ho g hx T _ (0, 0) d hA hu hd (by rw [hi, ← hn]; simp [nums]) h)
theorem arr_store (hgd : o.guard = none) (ty : TypeId) (x y : Operand) (ho : o.op = .store ty x y) (g : Nat) (k : IntKind) (ys : List Int) (hx : a.eval x = .pointer (some ⟨g, 0, none⟩)) (hy : a.eval y = .agg (nums k ys).toArray)
    (T : TypeId) (xs : List Int) (hA : ArrAt W g T k xs) (n : Nat) (hi : (P.info? ty).map (·.size) = some n) (hn : xs.length = n) (hm : ys.length = n)
    (h : wpList P ops Q rest (a.put o.dst undef) (W.setRow g (nums k ys).toArray)) : wpList P ops Q (o :: rest) a W :=
  wpList_store_row hgd ty x y ho g _ hx hy T _ hA (by rw [hi, ← hm]; simp [nums]) (by simp [nums, hn, hm]) (by simp [nums]; intros; rfl) h
end
theorem below_row {w W : World} {g : Nat} (h : Below w.heap.size w W) (hg : w.heap.size ≤ g) (cs : Array Value) : Below w.heap.size w (W.setRow g cs) :=
  h.trans ⟨rfl, rfl, rfl, by simp [World.setRow], fun k hk => setRow_other W g k cs (by omega)⟩
def zer (n : Nat) : List Int := List.replicate n 0
theorem zer_len (n : Nat) : (zer n).length = n := by simp [zer]
theorem arr_take_set {xs ys : List Int} {i : Int} (h0 : 0 ≤ i) (h1 : i < ys.length) (h2 : i < xs.length) (h : ys.take i.toNat = xs.take i.toNat) : (ys.set i.toNat (rd xs i)).take (i + 1).toNat = xs.take (i + 1).toNat := by
  rw [show (i + 1).toNat = i.toNat + 1 by omega, List.take_succ_eq_append_getElem (by simp; omega), List.take_succ_eq_append_getElem (by omega), List.getElem_set_self, List.take_set_of_le (by omega), h]
  congr 2
  unfold rd
  rw [List.getD_eq_getElem?_getD, List.getElem?_eq_getElem (by omega)]; rfl
theorem arr_ext {xs ys : List Int} (h : xs.length = ys.length) (he : ∀ j : Int, 0 ≤ j → j < xs.length → rd xs j = rd ys j) : xs = ys := by
  apply List.ext_getElem h
  intro j hj hj'
  have := he j (by omega) (by omega)
  unfold rd at this
  rw [List.getD_eq_getElem?_getD, List.getD_eq_getElem?_getD] at this
  simpa [hj, hj'] using this
theorem arr_new2a (w : World) (T : TypeId) (k : IntKind) (xs : List Int) (B : Obj) : ArrAt ((w.alloc (.cells (nums k xs).toArray T)).alloc B) w.heap.size T k xs := by
  unfold ArrAt
  rw [heap_alloc_old _ B (by simp)]
  exact heap_alloc_new _ _
theorem arr_new2b (w : World) (A : Obj) (T : TypeId) (k : IntKind) (xs : List Int) : ArrAt ((w.alloc A).alloc (.cells (nums k xs).toArray T)) (w.heap.size + 1) T k xs := heap_alloc2_new w A _
theorem arr_below2 (w : World) (A B : Obj) : Below w.heap.size w ((w.alloc A).alloc B) := ((Below.refl _ _).alloc (Nat.le_refl _) A).alloc (by simp) B
/-- the array whose cell k is xs' cell p k -/
def perm (n : Nat) (p : Int → Int) (xs : List Int) : List Int := (List.range n).map (fun k : Nat => rd xs (p (k : Int)))
theorem perm_len (n : Nat) (p : Int → Int) (xs : List Int) : (perm n p xs).length = n := by simp [perm]
theorem rd_perm {n : Nat} {p : Int → Int} {xs : List Int} {i : Int} (h0 : 0 ≤ i) (h1 : i < n) : rd (perm n p xs) i = rd xs (p i) := by
  unfold perm
  rw [show rd ((List.range n).map (fun k : Nat => rd xs (p (k : Int)))) i = ((List.range n).map (fun k : Nat => rd xs (p (k : Int))))[i.toNat]'(by simp; omega) by unfold rd; rw [List.getD_eq_getElem?_getD, List.getElem?_eq_getElem (by simp; omega)]; rfl]
  simp [show ((i.toNat : Nat) : Int) = i by omega]
theorem ArrAt.newAt {W : World} {g : Nat} (hg : W.heap.size = g) (T : TypeId) (k : IntKind) (xs : List Int) : ArrAt (W.alloc (.cells (nums k xs).toArray T)) g T k xs := by subst hg; exact heap_alloc_new _ _
theorem blk_newAt {W : World} {g : Nat} (hg : W.heap.size = g) (cs : Array Value) (T : TypeId) : (W.alloc (.cells cs T)).heap[g]? = some (.cells cs T (0, 0)) := by subst hg; exact heap_alloc_new _ _
theorem blk_alloc1 {W : World} {g : Nat} {ob : Obj} (h : W.heap[g]? = some ob) (o : Obj) : (W.alloc o).heap[g]? = some ob := (heap_alloc_old _ o (blk_lt h)).trans h
theorem blk_row {W : World} {g c : Nat} {ob : Obj} (h : W.heap[g]? = some ob) (hne : g ≠ c) (cs : Array Value) : (W.setRow c cs).heap[g]? = some ob := by
  rw [setRow_other W c g cs (by omega)]; exact h
theorem ArrAt.range {W : World} {b : Nat} {T : TypeId} {k : IntKind} {xs : List Int} (h : ArrAt W b T k xs) : W.rangeAt b 0 (nums k xs) := by
  intro j v hv
  rw [cell_of_row W b (0 + j) _ T (0, 0) h]
  simpa using hv
theorem range_below {W W1 : World} {b o : Nat} {cs : List Value} (hb : Below W.heap.size W W1) (h : W.rangeAt b o cs) (hl : b < W.heap.size) : W1.rangeAt b o cs :=
  fun j v hv => by rw [hb.cell hl]; exact h j v hv
end Go.Proofs.YtjonocgmofcieaaGreatDoor.Q
namespace Go.Proofs.YtjonocgmofcieaaGreatDoor.Q
open Go.RowKit Go.Proofs.YtjonocgmofcieaaGreatDoorW.PrintWords Go.Proofs.YtjonocgmofcieaaGreatDoorW.PrintLast Go.Proofs.YtjonocgmofcieaaGreatDoorW.PrintMore
set_option linter.unusedVariables false
set_option linter.unusedSimpArgs false
/-- has mask m the cell k -/
def D_bit (m k : Int) : Prop := Go.bits .and .u64 (m / 2 ^ k.toNat) 1 = 1
instance (m k : Int) : Decidable (D_bit m k) := by unfold D_bit; infer_instance
/-- is m a number of 64 bits -/
def U64 (m : Int) : Prop := 0 ≤ m ∧ m < 18446744073709551616
def tb (m k : Int) : Bool := m.toNat.testBit k.toNat
theorem nat_of_u64 {m : Int} (h : U64 m) : ∃ n : Nat, m = n ∧ n < 2 ^ 64 := ⟨m.toNat, by unfold U64 at h; omega, by unfold U64 at h; omega⟩
theorem bits_andNot_u64_nat (a b : Nat) (ha : a < 18446744073709551616) (hb : b < 18446744073709551616) :
    bits .andNot .u64 (a : Int) (b : Int) = ((a &&& (2 ^ 64 - 1 - b) : Nat) : Int) := by
  have hx : a &&& (2 ^ 64 - 1 - b) < 2 ^ 64 := Nat.and_lt_two_pow _ (by omega)
  have h1 : (BitVec.ofInt 64 (a : Int)).toNat = a := by
    rw [BitVec.ofInt_natCast, BitVec.toNat_ofNat]; exact Nat.mod_eq_of_lt (by omega)
  have h2 : (BitVec.ofInt 64 (b : Int)).toNat = b := by
    rw [BitVec.ofInt_natCast, BitVec.toNat_ofNat]; exact Nat.mod_eq_of_lt (by omega)
  show IntKind.u64.wrap ((BitVec.ofInt 64 (a : Int) &&& ~~~ BitVec.ofInt 64 (b : Int)).toNat : Int) = _
  rw [BitVec.toNat_and, BitVec.toNat_not, h1, h2, IntKind.wrap_u64]
  omega
theorem u64_or {a b : Int} (ha : U64 a) (hb : U64 b) : U64 (Go.bits .or .u64 a b) := by
  obtain ⟨x, rfl, hx⟩ := nat_of_u64 ha
  obtain ⟨y, rfl, hy⟩ := nat_of_u64 hb
  rw [bits_or_u64_nat x y (by omega) (by omega)]
  have : x ||| y < 2 ^ 64 := Nat.or_lt_two_pow hx hy
  unfold U64; omega
theorem u64_andNot {a b : Int} (ha : U64 a) (hb : U64 b) : U64 (Go.bits .andNot .u64 a b) := by
  obtain ⟨x, rfl, hx⟩ := nat_of_u64 ha
  obtain ⟨y, rfl, hy⟩ := nat_of_u64 hb
  rw [bits_andNot_u64_nat x y (by omega) (by omega)]
  have : x &&& (2 ^ 64 - 1 - y) < 2 ^ 64 := Nat.and_lt_two_pow _ (by omega)
  unfold U64; omega
theorem u64_and {a b : Int} (ha : U64 a) (hb : U64 b) : U64 (Go.bits .and .u64 a b) := by
  obtain ⟨x, rfl, hx⟩ := nat_of_u64 ha
  obtain ⟨y, rfl, hy⟩ := nat_of_u64 hb
  rw [bits_and_u64_nat x y (by omega) (by omega)]
  have : x &&& y < 2 ^ 64 := Nat.and_lt_two_pow _ hy
  unfold U64; omega
theorem tb_or {a b : Int} (ha : U64 a) (hb : U64 b) (k : Int) : tb (Go.bits .or .u64 a b) k = (tb a k || tb b k) := by
  obtain ⟨x, rfl, hx⟩ := nat_of_u64 ha
  obtain ⟨y, rfl, hy⟩ := nat_of_u64 hb
  rw [bits_or_u64_nat x y (by omega) (by omega)]
  unfold tb; simp
theorem tb_and {a b : Int} (ha : U64 a) (hb : U64 b) (k : Int) : tb (Go.bits .and .u64 a b) k = (tb a k && tb b k) := by
  obtain ⟨x, rfl, hx⟩ := nat_of_u64 ha
  obtain ⟨y, rfl, hy⟩ := nat_of_u64 hb
  rw [bits_and_u64_nat x y (by omega) (by omega)]
  unfold tb; simp
theorem tb_not {b k : Int} (hb : U64 b) (h0 : 0 ≤ k) (h1 : k < 64) : tb (18446744073709551615 - b) k = !tb b k := by
  obtain ⟨y, rfl, hy⟩ := nat_of_u64 hb
  unfold tb
  rw [show ((18446744073709551615 : Int) - (y : Int)).toNat = 2 ^ 64 - (y + 1) by omega, Int.toNat_natCast, Nat.testBit_two_pow_sub_succ hy]
  simp [show k.toNat < 64 by omega]
theorem tb_andNot {a b k : Int} (ha : U64 a) (hb : U64 b) (h0 : 0 ≤ k) (h1 : k < 64) : tb (Go.bits .andNot .u64 a b) k = (tb a k && !tb b k) := by
  have hn := tb_not hb h0 h1
  obtain ⟨x, rfl, hx⟩ := nat_of_u64 ha
  obtain ⟨y, rfl, hy⟩ := nat_of_u64 hb
  rw [bits_andNot_u64_nat x y (by omega) (by omega), ← hn]
  unfold tb
  rw [show ((18446744073709551615 : Int) - (y : Int)).toNat = 2 ^ 64 - 1 - y by omega]
  simp
theorem u64_pow {i : Int} (h0 : 0 ≤ i) (h1 : i < 64) : IntKind.u64.wrap (2 ^ i.toNat) = 2 ^ i.toNat ∧ U64 (2 ^ i.toNat) := by
  have h : (2 : Nat) ^ i.toNat ≤ 2 ^ 63 := Nat.pow_le_pow_right (by omega) (by omega)
  obtain ⟨p, hp⟩ : ∃ p : Nat, p = 2 ^ i.toNat := ⟨_, rfl⟩
  have e : (2 : Int) ^ i.toNat = (p : Int) := by rw [hp]; simp
  rw [← hp] at h
  rw [e]
  refine ⟨?_, by unfold U64; omega⟩
  simp [IntKind.wrap, IntKind.bits, IntKind.signed]; omega
theorem tb_pow {i k : Int} (h0 : 0 ≤ i) (h1 : i < 64) (h2 : 0 ≤ k) : tb (2 ^ i.toNat) k = decide (k = i) := by
  have e : (2 : Int) ^ i.toNat = ((2 ^ i.toNat : Nat) : Int) := by simp
  unfold tb
  rw [e, Int.toNat_natCast, Nat.testBit_two_pow]
  by_cases h : k = i
  · simp [h]
  · simp [h]; omega
theorem tb_zero (k : Int) : tb 0 k = false := by unfold tb; simp
theorem tb_ext {a b : Int} (ha : U64 a) (hb : U64 b) (h : ∀ k : Int, 0 ≤ k → k < 64 → tb a k = tb b k) : a = b := by
  obtain ⟨x, rfl, hx⟩ := nat_of_u64 ha
  obtain ⟨y, rfl, hy⟩ := nat_of_u64 hb
  congr 1
  apply Nat.eq_of_testBit_eq
  intro j
  by_cases hj : j < 64
  · have := h j (by omega) (by omega)
    unfold tb at this
    simpa using this
  · have e : 2 ^ 64 ≤ 2 ^ j := Nat.pow_le_pow_right (by omega) (by omega)
    rw [Nat.testBit_lt_two_pow (Nat.lt_of_lt_of_le hx e), Nat.testBit_lt_two_pow (Nat.lt_of_lt_of_le hy e)]
theorem u64_zero : U64 0 := by unfold U64; omega
theorem D_bit_tb {m k : Int} (hm : U64 m) (h0 : 0 ≤ k) : D_bit m k ↔ tb m k = true := by
  obtain ⟨x, rfl, hx⟩ := nat_of_u64 hm
  unfold D_bit tb
  have e : (x : Int) / 2 ^ k.toNat = ((x / 2 ^ k.toNat : Nat) : Int) := by simp
  have hlt : x / 2 ^ k.toNat < 2 ^ 64 := Nat.lt_of_le_of_lt (Nat.div_le_self _ _) hx
  have h1 := bits_and_u64_nat (x / 2 ^ k.toNat) 1 (by omega) (by omega)
  rw [e, show (1 : Int) = ((1 : Nat) : Int) by rfl, h1, Int.toNat_natCast, Nat.testBit, Nat.shiftRight_eq_div_pow, Nat.and_comm]
  constructor
  · intro h
    have : 1 &&& x / 2 ^ k.toNat = 1 := by omega
    simp [this]
  · intro h
    have hle : 1 &&& x / 2 ^ k.toNat ≤ 1 := Nat.and_le_left
    have : 1 &&& x / 2 ^ k.toNat ≠ 0 := by simpa using h
    omega
/-- ^d, as the walk spells it -/
theorem u64_compl {d : Int} (h : U64 d) : Go.bits .xor .u64 (if IntKind.u64.signed = true then -1 else IntKind.u64.max) d = 18446744073709551615 - d := by
  obtain ⟨y, rfl, hy⟩ := nat_of_u64 h
  have e : (if IntKind.u64.signed = true then (-1 : Int) else IntKind.u64.max) = ((18446744073709551615 : Nat) : Int) := by decide
  rw [e, bits_xor_u64_nat 18446744073709551615 y (by omega) (by omega)]
  have h1 : ((BitVec.allOnes 64) ^^^ (BitVec.ofNat 64 y)).toNat = 18446744073709551615 ^^^ y := by
    rw [BitVec.toNat_xor, BitVec.toNat_allOnes, BitVec.toNat_ofNat, Nat.mod_eq_of_lt hy]
  have h2 : ((BitVec.allOnes 64) ^^^ (BitVec.ofNat 64 y)).toNat = 2 ^ 64 - 1 - y := by
    rw [BitVec.allOnes_xor, BitVec.toNat_not, BitVec.toNat_ofNat, Nat.mod_eq_of_lt hy]
  omega
end Go.Proofs.YtjonocgmofcieaaGreatDoor.Q
namespace Go.Proofs.YtjonocgmofcieaaGreatDoor.Q
open Go.RowKit Go.Proofs.YtjonocgmofcieaaGreatDoorW.PrintWords Go.Proofs.YtjonocgmofcieaaGreatDoorW.PrintLast Go.Proofs.YtjonocgmofcieaaGreatDoorW.PrintMore
set_option linter.unusedVariables false
set_option linter.unusedSimpArgs false
theorem eqItems_same {P : Program} {e : TypeId} {k k' : IntKind} (hz : ∀ w, (isAgg e).run P w = .ok false w) (he : P.underlying e = some (.int k')) (xs : List Int) (w : World) : ∀ is : List Nat, (∀ j ∈ is, j < xs.length) → (Op.eqItems 9999 e 1 (nums k xs).toArray (nums k xs).toArray is).run P w = .ok true w
  | [], _ => by simp [Op.eqItems]
  | j :: is, h => by
    have hj := h j (by simp)
    have hp : (part e (nums k xs).toArray (j * 1)).run P w = .ok (.int k (xs[j])) w := by
      unfold part
      simp only [Sem.run_bind, hz, Result.andThen_ok, Bool.false_eq_true, if_false, Nat.mul_one]
      rw [show (nums k xs).toArray[j]? = some (.int k xs[j]) by simp [nums, List.getElem?_eq_getElem hj]]
      simp
    simp only [Op.eqItems, Sem.run_bind, hp, Result.andThen_ok, run_equalIn_int w 9998 e k k' _ _ he, beq_self_eq_true, Bool.not_true, Bool.false_eq_true, if_false]
    exact eqItems_same hz he xs w is (fun q hq => h q (List.mem_cons_of_mem _ hq))
theorem run_eqArr {P : Program} {T e : TypeId} {n : Nat} {i : TypeInfo} {k k' : IntKind} (hu : P.underlying T = some (.array n e)) (hi : P.info? e = some i) (hc : P.cellsOf e = 1) (hz : ∀ w, (isAgg e).run P w = .ok false w) (he : P.underlying e = some (.int k')) (xs : List Int) (hl : xs.length = n) (w : World) :
    (Op.equalIn 10000 T (.agg (nums k xs).toArray) (.agg (nums k xs).toArray)).run P w = .ok true w := by
  rw [run_equalIn_array w 9999 _ _ hu hi, hc]
  exact eqItems_same hz he xs w (List.range n) (fun j hj => by rw [hl]; exact List.mem_range.1 hj)
theorem eq_neg (xs : List Int) (hl : xs.length = 64) (w : World) : (Op.equalIn 10000 26 (.agg (nums .i16 xs).toArray) (.agg (nums .i16 xs).toArray)).run Tryz.prog w = .ok true w := by
  obtain ⟨i, hi⟩ := info_of_underlying Tryz.underlying24
  exact run_eqArr Tryz.underlying26 hi (by kernel_rfl) Tryz.isAgg24 Tryz.underlying24 xs hl w
theorem eq_prt (xs : List Int) (hl : xs.length = 64) (w : World) : (Op.equalIn 10000 33 (.agg (nums .i16 xs).toArray) (.agg (nums .i16 xs).toArray)).run Tryz.prog w = .ok true w := by
  obtain ⟨i, hi⟩ := info_of_underlying Tryz.underlying24
  exact run_eqArr Tryz.underlying33 hi (by kernel_rfl) Tryz.isAgg24 Tryz.underlying24 xs hl w
end Go.Proofs.YtjonocgmofcieaaGreatDoor.Q
namespace Go.Proofs.YtjonocgmofcieaaGreatDoor.Q
open Go.ChangeShapes Go.WideShapes Go.ChangeAt Go.RowKit Go.Joins Go.Deep Go.Proofs.YtjonocgmofcieaaGreatDoorW.PrintWords Go.Proofs.YtjonocgmofcieaaGreatDoorW.PrintLast Go.Proofs.YtjonocgmofcieaaGreatDoorW.PrintMore
set_option linter.unusedVariables false
set_option linter.unusedSimpArgs false
theorem okWide_arr {P : Program} {w : World} {r : Reach} {base : Nat} {t e : TypeId} {n : Nat} {v : Value} (ht : P.underlying t = some (.array n e)) (h : Value.okWide P w r base t v) : ∃ cs, v = .agg cs ∧ cs.size = P.cellsOf t := by
  simp only [Value.okWide, ht] at h
  obtain ⟨cs, h1, h2, _⟩ := h
  exact ⟨cs, h1, h2⟩
theorem open_arr {P : Program} {H : Type} {enc : TypeId × Value → H} {w : World} {r : Reach} {b0 base : Nat} {spare : Nat → Bool} {held : Bool} {t e : TypeId} {n : Nat} {k : IntKind} {v : Value} {d : DataW H} {p : List MemPlace} (ht : P.underlying t = some (.array n e)) (he : P.underlying e = some (.int k)) (hC : P.cellsOf t = n) (hE : P.cellsOf e = 1)
    (hv : Value.okWide P w r b0 t v) (h : DataW.Trod enc P w base spare held t v d p) : ∃ xs : List Int, v = .agg (nums k xs).toArray ∧ xs.length = n ∧ ∀ x ∈ xs, (Lit.int k x).wf = true := by
  obtain ⟨cs, rfl, hsz⟩ := okWide_arr ht hv
  obtain ⟨fuel, hf⟩ := h
  obtain ⟨ys, m, _, _, _, hl, hq⟩ := DataW.trod_array ht hf
  have hsz' : cs.toList.length = n := by rw [Array.length_toList, hsz, hC]
  have hel : ∀ i (hi : i < cs.toList.length), ∃ a, cs.toList[i]'hi = .int k a ∧ (Lit.int k a).wf = true := by
    intro i hi
    have h1 := hq i (by omega)
    rw [hE, List.getElem?_eq_getElem (by omega)] at h1
    obtain ⟨a, e1, _, w1⟩ := DataW.trod_int he h1
    refine ⟨a, ?_, w1⟩
    simp only [Value.cells, Nat.mul_one] at e1
    rw [List.drop_eq_getElem_cons hi] at e1
    simpa using e1
  refine ⟨cs.toList.map (fun v => match v with | .int _ a => a | _ => 0), ?_, by simpa using hsz', ?_⟩
  · congr 1
    apply Array.ext'
    simp only [nums, List.map_map]
    apply List.ext_getElem (by simp)
    intro i h1 h2
    obtain ⟨a, e1, _⟩ := hel i h1
    simp [e1]
  · intro x hx
    simp only [List.mem_map] at hx
    obtain ⟨v, hv, rfl⟩ := hx
    obtain ⟨i, hi, rfl⟩ := List.getElem_of_mem hv
    obtain ⟨a, e1, w1⟩ := hel i hi
    rw [e1]
    exact w1
end Go.Proofs.YtjonocgmofcieaaGreatDoor.Q
