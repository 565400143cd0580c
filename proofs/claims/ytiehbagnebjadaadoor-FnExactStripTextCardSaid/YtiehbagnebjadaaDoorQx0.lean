-- Written by wip/mk.py of this repository (a run of the kit's print with hand-proved leaves added); Lean checks it.
import Derived.Test.YtiehbagnebjadaaDoorProg
import Derived.Test.YtiehbagnebjadaaDoorLaid
import Derived.Below
import Derived.Deep.Draws
import Derived.Deep.AppendLies
import Derived.Maps.AppendAt
import Derived.OwnWalk
import Derived.Laws.BytesArg
import Derived.Laws.MakeOwn
import Derived.Laws.OwnMore
import Derived.Deep.OwnRows
import Derived.Tactics
import Derived.Lib.ConvBytes
import Derived.Laws.Slices
import Derived.WalkKit
import Derived.KernelRfl
import Derived.RowKit3
import Derived.Deep.LoopGhost
import Derived.Deep.QuietTactic
import Derived.BigQuiet
import Derived.WideLaws
import Derived.Deep.DeepCutAuto
import Derived.Deep.CutBlock
import Derived.Deep.RegionHeld3
import Derived.Laws.Rows
import Derived.Lib.AppendStr
import Derived.ArgAppend
import Derived.Laws.IdiomCopy
import Derived.OrdersHeld
import Derived.Laws.BitsLemmas
import Derived.RowKit
import Derived.Test.YtiehbagnebjadaaDoorWWords
import Derived.Test.YtiehbagnebjadaaDoorWLast
import Derived.Test.YtiehbagnebjadaaDoorWTab
import Derived.Test.YtiehbagnebjadaaDoorWFour
import Derived.Test.YtiehbagnebjadaaDoorWQPut
import Derived.Test.YtiehbagnebjadaaDoorWApart
import Derived.Test.YtiehbagnebjadaaDoorWArr
import Derived.Test.YtiehbagnebjadaaDoorWZeros
import Derived.Test.YtiehbagnebjadaaDoorWFoot
import Derived.Test.YtiehbagnebjadaaDoorWKept
import Derived.Test.YtiehbagnebjadaaDoorWShare
import Derived.Test.YtiehbagnebjadaaDoorWN
import Derived.Test.YtiehbagnebjadaaDoorWFootNe
import Derived.Test.YtiehbagnebjadaaDoorWAt
import Derived.Test.YtiehbagnebjadaaDoorWEqStruct
import Derived.Test.YtiehbagnebjadaaDoorWRepsOne
import Derived.Test.YtiehbagnebjadaaDoorWInv
import Derived.Test.YtiehbagnebjadaaDoorWInvWords
import Derived.Test.YtiehbagnebjadaaDoorWGuard
import Derived.Test.YtiehbagnebjadaaDoorWNEv
import Derived.Test.YtiehbagnebjadaaDoorWMore
namespace Go.Proofs.YtiehbagnebjadaaDoor.Q
open Go.RowKit Go.Proofs.YtiehbagnebjadaaDoorW.PrintWords Go.Proofs.YtiehbagnebjadaaDoorW.PrintLast Go.Proofs.YtiehbagnebjadaaDoorW.PrintMore
attribute [local go_sem] max2_int min2_int max_two min_two max_three min_three max_four min_four   -- for this text's walks alone
set_option linter.unusedVariables false
set_option linter.unusedSimpArgs false



def errW : Option Int → Value
  | none => .nilIface
  | some c => .iface 0 (.int .i64 c)
theorem errW_none : errW none = .nilIface := rfl
theorem errW_some (c : Int) : errW (some c) = .iface 0 (.int .i64 c) := rfl

theorem info5 : (Tryd.prog.info? 5).map (fun i => (i.zero, i.size, i.bytes)) = some (some (.int .u8 0), 1, 1) := by kernel_rfl
-- the values' own types

end Go.Proofs.YtiehbagnebjadaaDoor.Q
