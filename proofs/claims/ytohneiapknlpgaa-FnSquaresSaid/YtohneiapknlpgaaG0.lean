/- Printed by the kit's print.py for this seat (by the session's seatprint.py): what the functions compute and that the machine comes to just that; no condition beyond those in the theorems. -/
import Derived.Test.YtohneiapknlpgaaProg
import Derived.Below
import Derived.Deep.Draws
import Derived.Deep.AppendLies
import Derived.Maps.AppendAt
import Derived.OwnWalk
import Derived.Laws.BytesArg
import Derived.Laws.MakeOwn
import Derived.Laws.OwnMore
import Derived.Deep.OwnRows
import Derived.Tactics
import Derived.Lib.ConvBytes
import Derived.Laws.Slices
import Derived.WalkKit
import Derived.KernelRfl
import Derived.RowKit3
import Derived.Deep.LoopGhost
import Derived.Deep.QuietTactic
import Derived.BigQuiet
import Derived.WideLaws
import Derived.Deep.DeepCutAuto
import Derived.Deep.CutBlock
import Derived.Deep.RegionHeld3
import Derived.Laws.Rows
import Derived.Lib.AppendStr
import Derived.ArgAppend
import Derived.Laws.IdiomCopy
import Derived.OrdersHeld
import Derived.Laws.BitsLemmas
import Derived.RowKit
import Derived.Test.YtohneiapknlpgaaWWords
import Derived.Test.YtohneiapknlpgaaWLast
import Derived.Test.YtohneiapknlpgaaWTab
import Derived.Test.YtohneiapknlpgaaWFour
import Derived.Test.YtohneiapknlpgaaWQPut
import Derived.Test.YtohneiapknlpgaaWApart
import Derived.Test.YtohneiapknlpgaaWArr
import Derived.Test.YtohneiapknlpgaaWZeros
import Derived.Test.YtohneiapknlpgaaWFoot
import Derived.Test.YtohneiapknlpgaaWKept
import Derived.Test.YtohneiapknlpgaaWShare
import Derived.Test.YtohneiapknlpgaaWN
import Derived.Test.YtohneiapknlpgaaWFootNe
import Derived.Test.YtohneiapknlpgaaWAt
import Derived.Test.YtohneiapknlpgaaWEqStruct
import Derived.Test.YtohneiapknlpgaaWRepsOne
import Derived.Test.YtohneiapknlpgaaWInv
import Derived.Test.YtohneiapknlpgaaWInvWords
import Derived.Test.YtohneiapknlpgaaWGuard
import Derived.Test.YtohneiapknlpgaaWNEv
import Derived.Test.YtohneiapknlpgaaWMore
namespace Go.Proofs.Ytohneiapknlpgaa.P
open Go.RowKit Go.Proofs.YtohneiapknlpgaaW.PrintWords Go.Proofs.YtohneiapknlpgaaW.PrintLast Go.Proofs.YtohneiapknlpgaaW.PrintMore
attribute [local go_sem] max2_int min2_int max_two min_two max_three min_three max_four min_four   -- for this text's walks alone
set_option linter.unusedVariables false
set_option linter.unusedSimpArgs false



def errW : Option Int → Value
  | none => .nilIface
  | some c => .iface 0 (.int .i64 c)
theorem errW_none : errW none = .nilIface := rfl
theorem errW_some (c : Int) : errW (some c) = .iface 0 (.int .i64 c) := rfl

theorem info3 : (Try.prog.info? 3).map (fun i => (i.zero, i.size, i.bytes)) = some (some (.int .i64 0), 1, 8) := by kernel_rfl
-- the values' own types

end Go.Proofs.Ytohneiapknlpgaa.P
