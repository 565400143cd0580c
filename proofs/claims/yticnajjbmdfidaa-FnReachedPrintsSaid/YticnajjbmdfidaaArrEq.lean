-- Equality of whole arrays (seats with function 102 and the types of negatives and prints).
import Derived.Test.YticnajjbmdfidaaArrKit
import Derived.ChangeKeysEq
namespace Go.Proofs.Yticnajjbmdfidaa.Q
open Go.RowKit Go.Proofs.YticnajjbmdfidaaW.PrintWords Go.Proofs.YticnajjbmdfidaaW.PrintLast Go.Proofs.YticnajjbmdfidaaW.PrintMore
set_option linter.unusedVariables false
set_option linter.unusedSimpArgs false
theorem eqItems_same {P : Program} {e : TypeId} {k k' : IntKind} (hz : ∀ w, (isAgg e).run P w = .ok false w) (he : P.underlying e = some (.int k')) (xs : List Int) (w : World) : ∀ is : List Nat, (∀ j ∈ is, j < xs.length) → (Op.eqItems 9999 e 1 (nums k xs).toArray (nums k xs).toArray is).run P w = .ok true w
  | [], _ => by simp [Op.eqItems]
  | j :: is, h => by
    have hj := h j (by simp)
    have hp : (part e (nums k xs).toArray (j * 1)).run P w = .ok (.int k (xs[j])) w := by
      unfold part
      simp only [Sem.run_bind, hz, Result.andThen_ok, Bool.false_eq_true, if_false, Nat.mul_one]
      rw [show (nums k xs).toArray[j]? = some (.int k xs[j]) by simp [nums, List.getElem?_eq_getElem hj]]
      simp
    simp only [Op.eqItems, Sem.run_bind, hp, Result.andThen_ok, run_equalIn_int w 9998 e k k' _ _ he, beq_self_eq_true, Bool.not_true, Bool.false_eq_true, if_false]
    exact eqItems_same hz he xs w is (fun q hq => h q (List.mem_cons_of_mem _ hq))
theorem run_eqArr {P : Program} {T e : TypeId} {n : Nat} {i : TypeInfo} {k k' : IntKind} (hu : P.underlying T = some (.array n e)) (hi : P.info? e = some i) (hc : P.cellsOf e = 1) (hz : ∀ w, (isAgg e).run P w = .ok false w) (he : P.underlying e = some (.int k')) (xs : List Int) (hl : xs.length = n) (w : World) :
    (Op.equalIn 10000 T (.agg (nums k xs).toArray) (.agg (nums k xs).toArray)).run P w = .ok true w := by
  rw [run_equalIn_array w 9999 _ _ hu hi, hc]
  exact eqItems_same hz he xs w (List.range n) (fun j hj => by rw [hl]; exact List.mem_range.1 hj)
theorem eq_neg (xs : List Int) (hl : xs.length = 64) (w : World) : (Op.equalIn 10000 42 (.agg (nums .i16 xs).toArray) (.agg (nums .i16 xs).toArray)).run Try.prog w = .ok true w := by
  obtain ⟨i, hi⟩ := info_of_underlying Try.underlying35
  exact run_eqArr Try.underlying42 hi (by kernel_rfl) Try.isAgg35 Try.underlying35 xs hl w
theorem eq_prt (xs : List Int) (hl : xs.length = 64) (w : World) : (Op.equalIn 10000 39 (.agg (nums .i16 xs).toArray) (.agg (nums .i16 xs).toArray)).run Try.prog w = .ok true w := by
  obtain ⟨i, hi⟩ := info_of_underlying Try.underlying35
  exact run_eqArr Try.underlying39 hi (by kernel_rfl) Try.isAgg35 Try.underlying35 xs hl w
end Go.Proofs.Yticnajjbmdfidaa.Q
