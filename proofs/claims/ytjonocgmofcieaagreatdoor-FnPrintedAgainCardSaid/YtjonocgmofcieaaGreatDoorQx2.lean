-- Written by wip/mk.py of this repository (a run of the kit's print with hand-proved leaves added); Lean checks it.
import Derived.Test.YtjonocgmofcieaaGreatDoorQx0
namespace Go.Proofs.YtjonocgmofcieaaGreatDoor.Q
open Go.RowKit Go.Proofs.YtjonocgmofcieaaGreatDoorW.PrintWords Go.Proofs.YtjonocgmofcieaaGreatDoorW.PrintLast Go.Proofs.YtjonocgmofcieaaGreatDoorW.PrintMore
attribute [local go_sem] max2_int min2_int max_two min_two max_three min_three max_four min_four   -- for this text's walks alone
set_option linter.unusedVariables false
set_option linter.unusedSimpArgs false

theorem eqA102 (d : Nat) (w : World) (x0 y0 : Int) (x1 y1 : Int) :
    (Op.equalIn (d + 2) 102 (.agg #[.int .i16 x0, .int .i16 x1]) (.agg #[.int .i16 y0, .int .i16 y1])).run Tryz.prog w = .ok (x0 == y0 && (x1 == y1)) w := by
  refine eqA_of Tryz.underlying102 (by kernel_rfl) ?_
  refine eqf_cons (by rfl) (by go_simp; rfl) (by go_simp; rfl) (by go_simp) ?_
  exact eqf_last (by rfl) (by go_simp; rfl) (by go_simp; rfl) (by go_simp)
end Go.Proofs.YtjonocgmofcieaaGreatDoor.Q
