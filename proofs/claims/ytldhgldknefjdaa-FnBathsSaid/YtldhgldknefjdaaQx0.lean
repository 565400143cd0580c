-- Written by wip/mk.py of this repository (a run of the kit's print with hand-proved leaves added); Lean checks it.
import Derived.Test.YtldhgldknefjdaaProg
import Derived.Below
import Derived.Deep.Draws
import Derived.Deep.AppendLies
import Derived.Maps.AppendAt
import Derived.OwnWalk
import Derived.Laws.BytesArg
import Derived.Laws.MakeOwn
import Derived.Laws.OwnMore
import Derived.Deep.OwnRows
import Derived.Tactics
import Derived.Lib.ConvBytes
import Derived.Laws.Slices
import Derived.WalkKit
import Derived.KernelRfl
import Derived.RowKit3
import Derived.Deep.LoopGhost
import Derived.Deep.QuietTactic
import Derived.BigQuiet
import Derived.WideLaws
import Derived.Deep.DeepCutAuto
import Derived.Deep.CutBlock
import Derived.Deep.RegionHeld3
import Derived.Laws.Rows
import Derived.Lib.AppendStr
import Derived.ArgAppend
import Derived.Laws.IdiomCopy
import Derived.OrdersHeld
import Derived.Laws.BitsLemmas
import Derived.RowKit
import Derived.Test.YtldhgldknefjdaaWWords
import Derived.Test.YtldhgldknefjdaaWLast
import Derived.Test.YtldhgldknefjdaaWTab
import Derived.Test.YtldhgldknefjdaaWFour
import Derived.Test.YtldhgldknefjdaaWQPut
import Derived.Test.YtldhgldknefjdaaWApart
import Derived.Test.YtldhgldknefjdaaWArr
import Derived.Test.YtldhgldknefjdaaWZeros
import Derived.Test.YtldhgldknefjdaaWFoot
import Derived.Test.YtldhgldknefjdaaWKept
import Derived.Test.YtldhgldknefjdaaWShare
import Derived.Test.YtldhgldknefjdaaWN
import Derived.Test.YtldhgldknefjdaaWFootNe
import Derived.Test.YtldhgldknefjdaaWAt
import Derived.Test.YtldhgldknefjdaaWEqStruct
import Derived.Test.YtldhgldknefjdaaWRepsOne
import Derived.Test.YtldhgldknefjdaaWInv
import Derived.Test.YtldhgldknefjdaaWInvWords
import Derived.Test.YtldhgldknefjdaaWGuard
import Derived.Test.YtldhgldknefjdaaWNEv
import Derived.Test.YtldhgldknefjdaaWMore
namespace Go.Proofs.Ytldhgldknefjdaa.Q
open Go.RowKit Go.Proofs.YtldhgldknefjdaaW.PrintWords Go.Proofs.YtldhgldknefjdaaW.PrintLast Go.Proofs.YtldhgldknefjdaaW.PrintMore
attribute [local go_sem] max2_int min2_int max_two min_two max_three min_three max_four min_four   -- for this text's walks alone
set_option linter.unusedVariables false
set_option linter.unusedSimpArgs false



def errW : Option Int → Value
  | none => .nilIface
  | some c => .iface 0 (.int .i64 c)
theorem errW_none : errW none = .nilIface := rfl
theorem errW_some (c : Int) : errW (some c) = .iface 0 (.int .i64 c) := rfl

theorem info2 : (Try.prog.info? 2).map (fun i => (i.zero, i.size, i.bytes)) = some (some (.int .i64 0), 1, 8) := by kernel_rfl
-- the values' own types

end Go.Proofs.Ytldhgldknefjdaa.Q
