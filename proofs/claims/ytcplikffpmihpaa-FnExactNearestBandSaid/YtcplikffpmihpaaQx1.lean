-- Written by wip/mk.py of this repository (a run of the kit's print with hand-proved leaves added); Lean checks it.
import Derived.Test.YtcplikffpmihpaaQx0
namespace Go.Proofs.Ytcplikffpmihpaa.Q
open Go.RowKit Go.Proofs.YtcplikffpmihpaaW.PrintWords Go.Proofs.YtcplikffpmihpaaW.PrintLast Go.Proofs.YtcplikffpmihpaaW.PrintMore
attribute [local go_sem] max2_int min2_int max_two min_two max_three min_three max_four min_four   -- for this text's walks alone
set_option linter.unusedVariables false
set_option linter.unusedSimpArgs false

/-! ### plain words for the hand-proved leaves -/
def D_idx {α : Type} (q : α → Option Bool) : List α → Int → Option Int
  | [], _ => some (-1)
  | x :: t, i => (q x).bind fun b => if b = true then some i else D_idx q t (i + 1)
theorem D_idx_drop {α : Type} (q : α → Option Bool) (l : List α) (k : Nat) (hk : k < l.length) (i : Int) :
    D_idx q (l.drop k) i = (q (l[k]'hk)).bind fun b => if b = true then some i else D_idx q (l.drop (k + 1)) (i + 1) := by
  rw [List.drop_eq_getElem_cons hk]; rfl

end Go.Proofs.Ytcplikffpmihpaa.Q
