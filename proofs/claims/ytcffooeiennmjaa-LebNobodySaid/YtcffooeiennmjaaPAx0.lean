-- Written by a program of this session (wip/tools/myprint.py), out of the translation's print. Lean checks it.
import Derived.Test.YtcffooeiennmjaaProg
import Derived.Below
import Derived.Deep.Draws
import Derived.Deep.AppendLies
import Derived.Maps.AppendAt
import Derived.OwnWalk
import Derived.Laws.BytesArg
import Derived.Laws.MakeOwn
import Derived.Laws.OwnMore
import Derived.Deep.OwnRows
import Derived.Tactics
import Derived.Lib.ConvBytes
import Derived.Laws.Slices
import Derived.WalkKit
import Derived.KernelRfl
import Derived.RowKit3
import Derived.Deep.LoopGhost
import Derived.Deep.QuietTactic
import Derived.BigQuiet
import Derived.WideLaws
import Derived.Deep.DeepCutAuto
import Derived.Deep.CutBlock
import Derived.Deep.RegionHeld3
import Derived.Laws.Rows
import Derived.Lib.AppendStr
import Derived.ArgAppend
import Derived.Laws.IdiomCopy
import Derived.OrdersHeld
import Derived.Laws.BitsLemmas
import Derived.RowKit
import Derived.Test.YtcffooeiennmjaaWWords
import Derived.Test.YtcffooeiennmjaaWLast
import Derived.Test.YtcffooeiennmjaaWTab
import Derived.Test.YtcffooeiennmjaaWFour
import Derived.Test.YtcffooeiennmjaaWQPut
import Derived.Test.YtcffooeiennmjaaWApart
import Derived.Test.YtcffooeiennmjaaWArr
import Derived.Test.YtcffooeiennmjaaWZeros
import Derived.Test.YtcffooeiennmjaaWFoot
import Derived.Test.YtcffooeiennmjaaWKept
import Derived.Test.YtcffooeiennmjaaWShare
import Derived.Test.YtcffooeiennmjaaWN
import Derived.Test.YtcffooeiennmjaaWFootNe
import Derived.Test.YtcffooeiennmjaaWAt
import Derived.Test.YtcffooeiennmjaaWEqStruct
import Derived.Test.YtcffooeiennmjaaWRepsOne
import Derived.Test.YtcffooeiennmjaaWInv
import Derived.Test.YtcffooeiennmjaaWInvWords
import Derived.Test.YtcffooeiennmjaaWGuard
import Derived.Test.YtcffooeiennmjaaWNEv
import Derived.Test.YtcffooeiennmjaaWMore
import Derived.Test.YtcffooeiennmjaaMine
namespace Go.Proofs.Ytcffooeiennmjaa.PA
open Go.RowKit Go.Proofs.YtcffooeiennmjaaW.PrintWords Go.Proofs.YtcffooeiennmjaaW.PrintLast Go.Proofs.YtcffooeiennmjaaW.PrintMore
attribute [local go_sem] max2_int min2_int max_two min_two max_three min_three max_four min_four   -- for this text's walks alone
set_option linter.unusedVariables false
set_option linter.unusedSimpArgs false



def errW : Option Int → Value
  | none => .nilIface
  | some c => .iface 0 (.int .i64 c)
theorem errW_none : errW none = .nilIface := rfl
theorem errW_some (c : Int) : errW (some c) = .iface 0 (.int .i64 c) := rfl

theorem info5 : (Try.prog.info? 5).map (fun i => (i.zero, i.size, i.bytes)) = some (some (.int .u8 0), 1, 1) := by kernel_rfl
-- the values' own types

end Go.Proofs.Ytcffooeiennmjaa.PA
