-- Printed by wip/tools/pw.py over the kit's printer, for this claim.
import Derived.Test.YtbedgjjiinhpkaaProg
import Derived.Below
import Derived.Deep.Draws
import Derived.Deep.AppendLies
import Derived.Maps.AppendAt
import Derived.OwnWalk
import Derived.Laws.BytesArg
import Derived.Laws.MakeOwn
import Derived.Laws.OwnMore
import Derived.Deep.OwnRows
import Derived.Tactics
import Derived.Lib.ConvBytes
import Derived.Laws.Slices
import Derived.WalkKit
import Derived.KernelRfl
import Derived.RowKit3
import Derived.Deep.LoopGhost
import Derived.Deep.QuietTactic
import Derived.BigQuiet
import Derived.WideLaws
import Derived.Deep.DeepCutAuto
import Derived.Deep.CutBlock
import Derived.Deep.RegionHeld3
import Derived.Laws.Rows
import Derived.Lib.AppendStr
import Derived.ArgAppend
import Derived.Laws.IdiomCopy
import Derived.OrdersHeld
import Derived.Laws.BitsLemmas
import Derived.RowKit
import Derived.Test.YtbedgjjiinhpkaaWWords
import Derived.Test.YtbedgjjiinhpkaaWLast
import Derived.Test.YtbedgjjiinhpkaaWTab
import Derived.Test.YtbedgjjiinhpkaaWFour
import Derived.Test.YtbedgjjiinhpkaaWQPut
import Derived.Test.YtbedgjjiinhpkaaWApart
import Derived.Test.YtbedgjjiinhpkaaWArr
import Derived.Test.YtbedgjjiinhpkaaWZeros
import Derived.Test.YtbedgjjiinhpkaaWFoot
import Derived.Test.YtbedgjjiinhpkaaWKept
import Derived.Test.YtbedgjjiinhpkaaWShare
import Derived.Test.YtbedgjjiinhpkaaWN
import Derived.Test.YtbedgjjiinhpkaaWFootNe
import Derived.Test.YtbedgjjiinhpkaaWAt
import Derived.Test.YtbedgjjiinhpkaaWEqStruct
import Derived.Test.YtbedgjjiinhpkaaWRepsOne
import Derived.Test.YtbedgjjiinhpkaaWInv
import Derived.Test.YtbedgjjiinhpkaaWInvWords
import Derived.Test.YtbedgjjiinhpkaaWGuard
import Derived.Test.YtbedgjjiinhpkaaWNEv
import Derived.Test.YtbedgjjiinhpkaaWMore
namespace Go.Proofs.Ytbedgjjiinhpkaa.P
open Go.RowKit Go.Proofs.YtbedgjjiinhpkaaW.PrintWords Go.Proofs.YtbedgjjiinhpkaaW.PrintLast Go.Proofs.YtbedgjjiinhpkaaW.PrintMore
attribute [local go_sem] max2_int min2_int max_two min_two max_three min_three max_four min_four   -- for this text's walks alone
set_option linter.unusedVariables false
set_option linter.unusedSimpArgs false



def errW : Option Int → Value
  | none => .nilIface
  | some c => .iface 0 (.int .i64 c)
theorem errW_none : errW none = .nilIface := rfl
theorem errW_some (c : Int) : errW (some c) = .iface 0 (.int .i64 c) := rfl

theorem info3 : (Try.prog.info? 3).map (fun i => (i.zero, i.size, i.bytes)) = some (some (.int .i64 0), 1, 8) := by kernel_rfl
-- the values' own types

end Go.Proofs.Ytbedgjjiinhpkaa.P
