-- Written by wip/mk.py of this repository (a run of the kit's print with hand-proved leaves added); Lean checks it.
import Derived.Test.YtiehbagnebjadaaGreatDoorQx0
namespace Go.Proofs.YtiehbagnebjadaaGreatDoor.Q
open Go.RowKit Go.Proofs.YtiehbagnebjadaaGreatDoorW.PrintWords Go.Proofs.YtiehbagnebjadaaGreatDoorW.PrintLast Go.Proofs.YtiehbagnebjadaaGreatDoorW.PrintMore
attribute [local go_sem] max2_int min2_int max_two min_two max_three min_three max_four min_four   -- for this text's walks alone
set_option linter.unusedVariables false
set_option linter.unusedSimpArgs false

theorem eqA65 (d : Nat) (w : World) (x0 y0 : Int) (x1 y1 : Int) :
    (Op.equalIn (d + 2) 65 (.agg #[.int .i8 x0, .int .i64 x1]) (.agg #[.int .i8 y0, .int .i64 y1])).run Tryz.prog w = .ok (x0 == y0 && (x1 == y1)) w := by
  refine eqA_of Tryz.underlying65 (by kernel_rfl) ?_
  refine eqf_cons (by rfl) (by go_simp; rfl) (by go_simp; rfl) (by go_simp) ?_
  exact eqf_last (by rfl) (by go_simp; rfl) (by go_simp; rfl) (by go_simp)
end Go.Proofs.YtiehbagnebjadaaGreatDoor.Q
