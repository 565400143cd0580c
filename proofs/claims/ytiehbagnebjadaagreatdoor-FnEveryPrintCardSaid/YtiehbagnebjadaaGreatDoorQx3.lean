-- Written by wip/mk.py of this repository (a run of the kit's print with hand-proved leaves added); Lean checks it.
import Derived.Test.YtiehbagnebjadaaGreatDoorQx0
namespace Go.Proofs.YtiehbagnebjadaaGreatDoor.Q
open Go.RowKit Go.Proofs.YtiehbagnebjadaaGreatDoorW.PrintWords Go.Proofs.YtiehbagnebjadaaGreatDoorW.PrintLast Go.Proofs.YtiehbagnebjadaaGreatDoorW.PrintMore
attribute [local go_sem] max2_int min2_int max_two min_two max_three min_three max_four min_four   -- for this text's walks alone
set_option linter.unusedVariables false
set_option linter.unusedSimpArgs false

/-! ### plain words for the hand-proved leaves -/
def D_idx {α : Type} (q : α → Option Bool) : List α → Int → Option Int
  | [], _ => some (-1)
  | x :: t, i => (q x).bind fun b => if b = true then some i else D_idx q t (i + 1)
theorem D_idx_drop {α : Type} (q : α → Option Bool) (l : List α) (k : Nat) (hk : k < l.length) (i : Int) :
    D_idx q (l.drop k) i = (q (l[k]'hk)).bind fun b => if b = true then some i else D_idx q (l.drop (k + 1)) (i + 1) := by
  rw [List.drop_eq_getElem_cons hk]; rfl
theorem alloc3_0 (w : World) (A B C : Obj) : (((w.alloc A).alloc B).alloc C).heap[w.heap.size]? = some A := by
  rw [heap_alloc_old _ C (by simp; omega), heap_alloc_old _ B (by simp)]
  exact heap_alloc_new _ _
theorem alloc3_1 (w : World) (A B C : Obj) : (((w.alloc A).alloc B).alloc C).heap[w.heap.size + 1]? = some B := by
  rw [heap_alloc_old _ C (by simp)]
  exact heap_alloc2_new w A B
theorem alloc3_2 (w : World) (A B C : Obj) : (((w.alloc A).alloc B).alloc C).heap[w.heap.size + 2]? = some C := by
  have h := heap_alloc2_new (w.alloc A) B C
  rwa [show (w.alloc A).heap.size + 1 = w.heap.size + 2 by simp] at h
theorem alloc3_below (w : World) (A B C : Obj) : Below w.heap.size w (((w.alloc A).alloc B).alloc C) :=
  (((Below.refl _ _).alloc (Nat.le_refl _) A).alloc (by simp) B).alloc (by simp; omega) C
theorem below_grow (w : World) (k : Nat) (os : Array Obj) : Below w.heap.size w (Sort.grow (w.drewN k) os) := by
  have hb : Below w.heap.size w (w.drewN k) := pw_below_drewN (Below.refl _ w) k
  refine ⟨hb.os, hb.tape, hb.output, ?_, fun i hi => ?_⟩
  · have := hb.size
    simp only [Sort.grow, Array.size_append]
    omega
  · have := hb.block i hi
    have h2 := hb.size
    show ((w.drewN k).heap ++ os)[i]? = _
    rw [Array.getElem?_append_left (by omega)]
    exact this
/-- what the library's tables and variables hold that this work looks into -/
structure Tab10 (w : World) : Prop where
  pow : Lib.TabIs Tryz.prog w "internal/strconv.uint64pow10" .u64 Lib.pow10Tab
  hex : w.cell? ⟨7, 15, none⟩ = some (.int .u8 4)
  len : ∃ m, w.cell? ⟨0, 0, none⟩ = some (.int .i64 m)
  syn : ∃ ev, w.cell? ⟨1, 0, none⟩ = some ev ∧ (ev = .nilIface ∨ ∃ te pe, ev = .iface te pe)
  ran : ∃ ev, w.cell? ⟨2, 0, none⟩ = some ev ∧ (ev = .nilIface ∨ ∃ te pe, ev = .iface te pe)
theorem cell_kept {w W : World} (hb : Below w.heap.size w W) {a : Addr} {v : Value} (h : w.cell? a = some v) : W.cell? a = some v := (hb.cell (World.block_lt_of_cell? _ _ h)).trans h
theorem tab_kept {w W : World} (hb : Below w.heap.size w W) (h : Lib.TabIs Tryz.prog w "internal/strconv.uint64pow10" .u64 Lib.pow10Tab) : Lib.TabIs Tryz.prog W "internal/strconv.uint64pow10" .u64 Lib.pow10Tab := by
  unfold Lib.TabIs World.var? at h ⊢
  cases hg : Program.globalNamed Tryz.prog "internal/strconv.uint64pow10" with
  | none => rw [hg] at h; simp at h
  | some g =>
    rw [hg] at h
    simp only [Option.bind_some] at h ⊢
    by_cases hlt : g < w.heap.size
    · rw [hb.block g hlt]; exact h
    · rw [Array.getElem?_eq_none (by omega)] at h; simp at h
theorem Tab10.below {w W : World} (h : Tab10 w) (hb : Below w.heap.size w W) : Tab10 W := by
  refine Tab10.mk (tab_kept hb h.pow) (cell_kept hb h.hex) ?_ ?_ ?_
  · obtain ⟨m, e⟩ := h.len; exact ⟨m, cell_kept hb e⟩
  · obtain ⟨m, e, z⟩ := h.syn; exact ⟨m, cell_kept hb e, z⟩
  · obtain ⟨m, e, z⟩ := h.ran; exact ⟨m, cell_kept hb e, z⟩
theorem Tab10.alloc {w : World} (h : Tab10 w) (o : Obj) : Tab10 (w.alloc o) := h.below ((Below.refl _ w).alloc (Nat.le_refl _) o)
theorem Tab10.drew {w : World} (h : Tab10 w) : Tab10 w.drew := ⟨h.1, h.2, h.3, h.4, h.5⟩
theorem Tab10.drewN {w : World} (h : Tab10 w) (n : Nat) : Tab10 (w.drewN n) := ⟨h.1, h.2, h.3, h.4, h.5⟩
theorem blk_c {W : World} {g : Nat} {cs : Array Value} {t : TypeId} (hb : W.heap[g]? = some (.cells cs t (0, 0))) (i : Nat) {v : Value} (h : cs[i]? = some v) : W.cell? ⟨g, i, none⟩ = some v := (blk_cell hb i).trans h

end Go.Proofs.YtiehbagnebjadaaGreatDoor.Q
