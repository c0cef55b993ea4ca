/- Printed by a program of this session out of the translation: each Go function as a Lean function, with the proof that Go comes to just its answer (no condition beyond what each theorem says). -/
import Derived.Test.YtcofbfjnkodpmaaProg
import Derived.Below
import Derived.Deep.Draws
import Derived.Deep.AppendLies
import Derived.Maps.AppendAt
import Derived.OwnWalk
import Derived.Laws.BytesArg
import Derived.Laws.MakeOwn
import Derived.Laws.OwnMore
import Derived.Deep.OwnRows
import Derived.Tactics
import Derived.Lib.ConvBytes
import Derived.Laws.Slices
import Derived.WalkKit
import Derived.KernelRfl
import Derived.RowKit3
import Derived.Deep.LoopGhost
import Derived.Deep.QuietTactic
import Derived.BigQuiet
import Derived.WideLaws
import Derived.Deep.DeepCutAuto
import Derived.Deep.CutBlock
import Derived.Deep.RegionHeld3
import Derived.Laws.Rows
import Derived.Lib.AppendStr
import Derived.ArgAppend
import Derived.Laws.IdiomCopy
import Derived.OrdersHeld
import Derived.Laws.BitsLemmas
import Derived.RowKit
import Derived.Test.YtcofbfjnkodpmaaWWords
import Derived.Test.YtcofbfjnkodpmaaWLast
import Derived.Test.YtcofbfjnkodpmaaWTab
import Derived.Test.YtcofbfjnkodpmaaWFour
import Derived.Test.YtcofbfjnkodpmaaWQPut
import Derived.Test.YtcofbfjnkodpmaaWApart
import Derived.Test.YtcofbfjnkodpmaaWArr
import Derived.Test.YtcofbfjnkodpmaaWZeros
import Derived.Test.YtcofbfjnkodpmaaWFoot
import Derived.Test.YtcofbfjnkodpmaaWKept
import Derived.Test.YtcofbfjnkodpmaaWShare
import Derived.Test.YtcofbfjnkodpmaaWN
import Derived.Test.YtcofbfjnkodpmaaWFootNe
import Derived.Test.YtcofbfjnkodpmaaWAt
import Derived.Test.YtcofbfjnkodpmaaWEqStruct
import Derived.Test.YtcofbfjnkodpmaaWRepsOne
import Derived.Test.YtcofbfjnkodpmaaWInv
import Derived.Test.YtcofbfjnkodpmaaWInvWords
import Derived.Test.YtcofbfjnkodpmaaWGuard
import Derived.Test.YtcofbfjnkodpmaaWNEv
import Derived.Test.YtcofbfjnkodpmaaWMore
namespace Go.Proofs.Ytcofbfjnkodpmaa.PFnBars
open Go.RowKit Go.Proofs.YtcofbfjnkodpmaaW.PrintWords Go.Proofs.YtcofbfjnkodpmaaW.PrintLast Go.Proofs.YtcofbfjnkodpmaaW.PrintMore
attribute [local go_sem] max2_int min2_int max_two min_two max_three min_three max_four min_four   -- for this text's walks alone
set_option linter.unusedVariables false
set_option linter.unusedSimpArgs false



def errW : Option Int → Value
  | none => .nilIface
  | some c => .iface 0 (.int .i64 c)
theorem errW_none : errW none = .nilIface := rfl
theorem errW_some (c : Int) : errW (some c) = .iface 0 (.int .i64 c) := rfl

theorem info3 : (Try.prog.info? 3).map (fun i => (i.zero, i.size, i.bytes)) = some (some (.int .i64 0), 1, 8) := by kernel_rfl
-- the values' own types

end Go.Proofs.Ytcofbfjnkodpmaa.PFnBars
