-- Printed by wip/tools/pw.py over the kit's printer, for this claim.
import Derived.Test.YtbedgjjiinhpkaaDoorProg
import Derived.Below
import Derived.Deep.Draws
import Derived.Deep.AppendLies
import Derived.Maps.AppendAt
import Derived.OwnWalk
import Derived.Laws.BytesArg
import Derived.Laws.MakeOwn
import Derived.Laws.OwnMore
import Derived.Deep.OwnRows
import Derived.Tactics
import Derived.Lib.ConvBytes
import Derived.Laws.Slices
import Derived.WalkKit
import Derived.KernelRfl
import Derived.RowKit3
import Derived.Deep.LoopGhost
import Derived.Deep.QuietTactic
import Derived.BigQuiet
import Derived.WideLaws
import Derived.Deep.DeepCutAuto
import Derived.Deep.CutBlock
import Derived.Deep.RegionHeld3
import Derived.Laws.Rows
import Derived.Lib.AppendStr
import Derived.ArgAppend
import Derived.Laws.IdiomCopy
import Derived.OrdersHeld
import Derived.Laws.BitsLemmas
import Derived.RowKit
import Derived.Test.YtbedgjjiinhpkaaDoorWWords
import Derived.Test.YtbedgjjiinhpkaaDoorWLast
import Derived.Test.YtbedgjjiinhpkaaDoorWTab
import Derived.Test.YtbedgjjiinhpkaaDoorWFour
import Derived.Test.YtbedgjjiinhpkaaDoorWQPut
import Derived.Test.YtbedgjjiinhpkaaDoorWApart
import Derived.Test.YtbedgjjiinhpkaaDoorWArr
import Derived.Test.YtbedgjjiinhpkaaDoorWZeros
import Derived.Test.YtbedgjjiinhpkaaDoorWFoot
import Derived.Test.YtbedgjjiinhpkaaDoorWKept
import Derived.Test.YtbedgjjiinhpkaaDoorWShare
import Derived.Test.YtbedgjjiinhpkaaDoorWN
import Derived.Test.YtbedgjjiinhpkaaDoorWFootNe
import Derived.Test.YtbedgjjiinhpkaaDoorWAt
import Derived.Test.YtbedgjjiinhpkaaDoorWEqStruct
import Derived.Test.YtbedgjjiinhpkaaDoorWRepsOne
import Derived.Test.YtbedgjjiinhpkaaDoorWInv
import Derived.Test.YtbedgjjiinhpkaaDoorWInvWords
import Derived.Test.YtbedgjjiinhpkaaDoorWGuard
import Derived.Test.YtbedgjjiinhpkaaDoorWNEv
import Derived.Test.YtbedgjjiinhpkaaDoorWMore
namespace Go.Proofs.YtbedgjjiinhpkaaDoor.P
open Go.RowKit Go.Proofs.YtbedgjjiinhpkaaDoorW.PrintWords Go.Proofs.YtbedgjjiinhpkaaDoorW.PrintLast Go.Proofs.YtbedgjjiinhpkaaDoorW.PrintMore
attribute [local go_sem] max2_int min2_int max_two min_two max_three min_three max_four min_four   -- for this text's walks alone
set_option linter.unusedVariables false
set_option linter.unusedSimpArgs false



def errW : Option Int → Value
  | none => .nilIface
  | some c => .iface 0 (.int .i64 c)
theorem errW_none : errW none = .nilIface := rfl
theorem errW_some (c : Int) : errW (some c) = .iface 0 (.int .i64 c) := rfl

theorem info3 : (Tryd.prog.info? 3).map (fun i => (i.zero, i.size, i.bytes)) = some (some (.int .i64 0), 1, 8) := by kernel_rfl
-- the values' own types

end Go.Proofs.YtbedgjjiinhpkaaDoor.P
