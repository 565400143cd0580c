-- An argument that is an array of whole numbers, opened.
import Derived.Test.YticnajjbmdfidaaArrKit
import Derived.WalkKit
import Derived.ProofKit
import Derived.OpenShut
import Derived.ShutString
import Derived.ChangeOld
import Derived.Below
import Derived.SizedLaws
import Derived.Lib.SmallJoins
import Derived.Deep.Slices
import Derived.Deep.Fields
import Derived.ChangeSame
namespace Go.Proofs.Yticnajjbmdfidaa.Q
open Go.ChangeShapes Go.WideShapes Go.ChangeAt Go.RowKit Go.Joins Go.Deep Go.Proofs.YticnajjbmdfidaaW.PrintWords Go.Proofs.YticnajjbmdfidaaW.PrintLast Go.Proofs.YticnajjbmdfidaaW.PrintMore
set_option linter.unusedVariables false
set_option linter.unusedSimpArgs false
theorem okWide_arr {P : Program} {w : World} {r : Reach} {base : Nat} {t e : TypeId} {n : Nat} {v : Value} (ht : P.underlying t = some (.array n e)) (h : Value.okWide P w r base t v) : ∃ cs, v = .agg cs ∧ cs.size = P.cellsOf t := by
  simp only [Value.okWide, ht] at h
  obtain ⟨cs, h1, h2, _⟩ := h
  exact ⟨cs, h1, h2⟩
theorem open_arr {P : Program} {H : Type} {enc : TypeId × Value → H} {w : World} {r : Reach} {b0 base : Nat} {spare : Nat → Bool} {held : Bool} {t e : TypeId} {n : Nat} {k : IntKind} {v : Value} {d : DataW H} {p : List MemPlace} (ht : P.underlying t = some (.array n e)) (he : P.underlying e = some (.int k)) (hC : P.cellsOf t = n) (hE : P.cellsOf e = 1)
    (hv : Value.okWide P w r b0 t v) (h : DataW.Trod enc P w base spare held t v d p) : ∃ xs : List Int, v = .agg (nums k xs).toArray ∧ xs.length = n ∧ ∀ x ∈ xs, (Lit.int k x).wf = true := by
  obtain ⟨cs, rfl, hsz⟩ := okWide_arr ht hv
  obtain ⟨fuel, hf⟩ := h
  obtain ⟨ys, m, _, _, _, hl, hq⟩ := DataW.trod_array ht hf
  have hsz' : cs.toList.length = n := by rw [Array.length_toList, hsz, hC]
  have hel : ∀ i (hi : i < cs.toList.length), ∃ a, cs.toList[i]'hi = .int k a ∧ (Lit.int k a).wf = true := by
    intro i hi
    have h1 := hq i (by omega)
    rw [hE, List.getElem?_eq_getElem (by omega)] at h1
    obtain ⟨a, e1, _, w1⟩ := DataW.trod_int he h1
    refine ⟨a, ?_, w1⟩
    simp only [Value.cells, Nat.mul_one] at e1
    rw [List.drop_eq_getElem_cons hi] at e1
    simpa using e1
  refine ⟨cs.toList.map (fun v => match v with | .int _ a => a | _ => 0), ?_, by simpa using hsz', ?_⟩
  · congr 1
    apply Array.ext'
    simp only [nums, List.map_map]
    apply List.ext_getElem (by simp)
    intro i h1 h2
    obtain ⟨a, e1, _⟩ := hel i h1
    simp [e1]
  · intro x hx
    simp only [List.mem_map] at hx
    obtain ⟨v, hv, rfl⟩ := hx
    obtain ⟨i, hi, rfl⟩ := List.getElem_of_mem hv
    obtain ⟨a, e1, w1⟩ := hel i hi
    rw [e1]
    exact w1
end Go.Proofs.Yticnajjbmdfidaa.Q
