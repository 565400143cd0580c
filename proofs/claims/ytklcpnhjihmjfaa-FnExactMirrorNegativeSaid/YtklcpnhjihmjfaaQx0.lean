-- Written by wip/mk.py of this repository (a run of the kit's print with hand-proved leaves added); Lean checks it.
import Derived.Test.YtklcpnhjihmjfaaProg
import Derived.Below
import Derived.Deep.Draws
import Derived.Deep.AppendLies
import Derived.Maps.AppendAt
import Derived.OwnWalk
import Derived.Laws.BytesArg
import Derived.Laws.MakeOwn
import Derived.Laws.OwnMore
import Derived.Deep.OwnRows
import Derived.Tactics
import Derived.Lib.ConvBytes
import Derived.Laws.Slices
import Derived.WalkKit
import Derived.KernelRfl
import Derived.RowKit3
import Derived.Deep.LoopGhost
import Derived.Deep.QuietTactic
import Derived.BigQuiet
import Derived.WideLaws
import Derived.Deep.DeepCutAuto
import Derived.Deep.CutBlock
import Derived.Deep.RegionHeld3
import Derived.Laws.Rows
import Derived.Lib.AppendStr
import Derived.ArgAppend
import Derived.Laws.IdiomCopy
import Derived.OrdersHeld
import Derived.Laws.BitsLemmas
import Derived.RowKit
import Derived.Test.YtklcpnhjihmjfaaWWords
import Derived.Test.YtklcpnhjihmjfaaWLast
import Derived.Test.YtklcpnhjihmjfaaWTab
import Derived.Test.YtklcpnhjihmjfaaWFour
import Derived.Test.YtklcpnhjihmjfaaWQPut
import Derived.Test.YtklcpnhjihmjfaaWApart
import Derived.Test.YtklcpnhjihmjfaaWArr
import Derived.Test.YtklcpnhjihmjfaaWZeros
import Derived.Test.YtklcpnhjihmjfaaWFoot
import Derived.Test.YtklcpnhjihmjfaaWKept
import Derived.Test.YtklcpnhjihmjfaaWShare
import Derived.Test.YtklcpnhjihmjfaaWN
import Derived.Test.YtklcpnhjihmjfaaWFootNe
import Derived.Test.YtklcpnhjihmjfaaWAt
import Derived.Test.YtklcpnhjihmjfaaWEqStruct
import Derived.Test.YtklcpnhjihmjfaaWRepsOne
import Derived.Test.YtklcpnhjihmjfaaWInv
import Derived.Test.YtklcpnhjihmjfaaWInvWords
import Derived.Test.YtklcpnhjihmjfaaWGuard
import Derived.Test.YtklcpnhjihmjfaaWNEv
import Derived.Test.YtklcpnhjihmjfaaWMore
namespace Go.Proofs.Ytklcpnhjihmjfaa.Q
open Go.RowKit Go.Proofs.YtklcpnhjihmjfaaW.PrintWords Go.Proofs.YtklcpnhjihmjfaaW.PrintLast Go.Proofs.YtklcpnhjihmjfaaW.PrintMore
attribute [local go_sem] max2_int min2_int max_two min_two max_three min_three max_four min_four   -- for this text's walks alone
set_option linter.unusedVariables false
set_option linter.unusedSimpArgs false



def errW : Option Int → Value
  | none => .nilIface
  | some c => .iface 0 (.int .i64 c)
theorem errW_none : errW none = .nilIface := rfl
theorem errW_some (c : Int) : errW (some c) = .iface 0 (.int .i64 c) := rfl

-- the values' own types

end Go.Proofs.Ytklcpnhjihmjfaa.Q
