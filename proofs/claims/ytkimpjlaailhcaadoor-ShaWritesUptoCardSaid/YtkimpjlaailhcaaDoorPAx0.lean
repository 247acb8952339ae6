-- Written by a program of this session (wip/tools/myprint.py), out of the translation's print. Lean checks it.
import Derived.Test.YtkimpjlaailhcaaDoorProg
import Derived.Below
import Derived.Deep.Draws
import Derived.Deep.AppendLies
import Derived.Maps.AppendAt
import Derived.OwnWalk
import Derived.Laws.BytesArg
import Derived.Laws.MakeOwn
import Derived.Laws.OwnMore
import Derived.Deep.OwnRows
import Derived.Tactics
import Derived.Lib.ConvBytes
import Derived.Laws.Slices
import Derived.WalkKit
import Derived.KernelRfl
import Derived.RowKit3
import Derived.Deep.LoopGhost
import Derived.Deep.QuietTactic
import Derived.BigQuiet
import Derived.WideLaws
import Derived.Deep.DeepCutAuto
import Derived.Deep.CutBlock
import Derived.Deep.RegionHeld3
import Derived.Laws.Rows
import Derived.Lib.AppendStr
import Derived.ArgAppend
import Derived.Laws.IdiomCopy
import Derived.OrdersHeld
import Derived.Laws.BitsLemmas
import Derived.RowKit
import Derived.Test.YtkimpjlaailhcaaDoorWWords
import Derived.Test.YtkimpjlaailhcaaDoorWLast
import Derived.Test.YtkimpjlaailhcaaDoorWTab
import Derived.Test.YtkimpjlaailhcaaDoorWFour
import Derived.Test.YtkimpjlaailhcaaDoorWQPut
import Derived.Test.YtkimpjlaailhcaaDoorWApart
import Derived.Test.YtkimpjlaailhcaaDoorWArr
import Derived.Test.YtkimpjlaailhcaaDoorWZeros
import Derived.Test.YtkimpjlaailhcaaDoorWFoot
import Derived.Test.YtkimpjlaailhcaaDoorWKept
import Derived.Test.YtkimpjlaailhcaaDoorWShare
import Derived.Test.YtkimpjlaailhcaaDoorWN
import Derived.Test.YtkimpjlaailhcaaDoorWFootNe
import Derived.Test.YtkimpjlaailhcaaDoorWAt
import Derived.Test.YtkimpjlaailhcaaDoorWEqStruct
import Derived.Test.YtkimpjlaailhcaaDoorWRepsOne
import Derived.Test.YtkimpjlaailhcaaDoorWInv
import Derived.Test.YtkimpjlaailhcaaDoorWInvWords
import Derived.Test.YtkimpjlaailhcaaDoorWGuard
import Derived.Test.YtkimpjlaailhcaaDoorWNEv
import Derived.Test.YtkimpjlaailhcaaDoorWMore
import Derived.Test.YtkimpjlaailhcaaDoorMine
namespace Go.Proofs.YtkimpjlaailhcaaDoor.PA
open Go.RowKit Go.Proofs.YtkimpjlaailhcaaDoorW.PrintWords Go.Proofs.YtkimpjlaailhcaaDoorW.PrintLast Go.Proofs.YtkimpjlaailhcaaDoorW.PrintMore
attribute [local go_sem] max2_int min2_int max_two min_two max_three min_three max_four min_four   -- for this text's walks alone
set_option linter.unusedVariables false
set_option linter.unusedSimpArgs false



def errW : Option Int → Value
  | none => .nilIface
  | some c => .iface 0 (.int .i64 c)
theorem errW_none : errW none = .nilIface := rfl
theorem errW_some (c : Int) : errW (some c) = .iface 0 (.int .i64 c) := rfl

theorem info5 : (Tryd.prog.info? 5).map (fun i => (i.zero, i.size, i.bytes)) = some (some (.int .u8 0), 1, 1) := by kernel_rfl
-- the values' own types

end Go.Proofs.YtkimpjlaailhcaaDoor.PA
