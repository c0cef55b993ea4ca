/- Printed by a program of this session out of the translation: each Go function as a Lean function, with the proof that Go comes to just its answer (no condition beyond what each theorem says). -/
import Derived.Test.YtphlfmmhpmhjfaaProg
import Derived.Below
import Derived.Deep.Draws
import Derived.Deep.AppendLies
import Derived.Maps.AppendAt
import Derived.OwnWalk
import Derived.Laws.BytesArg
import Derived.Laws.MakeOwn
import Derived.Laws.OwnMore
import Derived.Deep.OwnRows
import Derived.Tactics
import Derived.Lib.ConvBytes
import Derived.Laws.Slices
import Derived.WalkKit
import Derived.KernelRfl
import Derived.RowKit3
import Derived.Deep.LoopGhost
import Derived.Deep.QuietTactic
import Derived.BigQuiet
import Derived.WideLaws
import Derived.Deep.DeepCutAuto
import Derived.Deep.CutBlock
import Derived.Deep.RegionHeld3
import Derived.Laws.Rows
import Derived.Lib.AppendStr
import Derived.ArgAppend
import Derived.Laws.IdiomCopy
import Derived.OrdersHeld
import Derived.Laws.BitsLemmas
import Derived.RowKit
import Derived.Test.YtphlfmmhpmhjfaaFns
import Derived.Test.YtphlfmmhpmhjfaaWWords
import Derived.Test.YtphlfmmhpmhjfaaWLast
import Derived.Test.YtphlfmmhpmhjfaaWTab
import Derived.Test.YtphlfmmhpmhjfaaWFour
import Derived.Test.YtphlfmmhpmhjfaaWQPut
import Derived.Test.YtphlfmmhpmhjfaaWApart
import Derived.Test.YtphlfmmhpmhjfaaWArr
import Derived.Test.YtphlfmmhpmhjfaaWZeros
import Derived.Test.YtphlfmmhpmhjfaaWFoot
import Derived.Test.YtphlfmmhpmhjfaaWKept
import Derived.Test.YtphlfmmhpmhjfaaWShare
import Derived.Test.YtphlfmmhpmhjfaaWN
import Derived.Test.YtphlfmmhpmhjfaaWFootNe
import Derived.Test.YtphlfmmhpmhjfaaWAt
import Derived.Test.YtphlfmmhpmhjfaaWEqStruct
import Derived.Test.YtphlfmmhpmhjfaaWRepsOne
import Derived.Test.YtphlfmmhpmhjfaaWInv
import Derived.Test.YtphlfmmhpmhjfaaWInvWords
import Derived.Test.YtphlfmmhpmhjfaaWGuard
import Derived.Test.YtphlfmmhpmhjfaaWNEv
import Derived.Test.YtphlfmmhpmhjfaaWMore
namespace Go.Proofs.Ytphlfmmhpmhjfaa.PFnExactArbiterOk
open Go.RowKit Go.Proofs.YtphlfmmhpmhjfaaW.PrintWords Go.Proofs.YtphlfmmhpmhjfaaW.PrintLast Go.Proofs.YtphlfmmhpmhjfaaW.PrintMore
attribute [local go_sem] max2_int min2_int max_two min_two max_three min_three max_four min_four   -- for this text's walks alone
set_option linter.unusedVariables false
set_option linter.unusedSimpArgs false



def errW : Option Int → Value
  | none => .nilIface
  | some c => .iface 0 (.int .i64 c)
theorem errW_none : errW none = .nilIface := rfl
theorem errW_some (c : Int) : errW (some c) = .iface 0 (.int .i64 c) := rfl

theorem info3 : (Try.prog.info? 3).map (fun i => (i.zero, i.size, i.bytes)) = some (some (.int .i64 0), 1, 8) := by kernel_rfl
-- the values' own types

end Go.Proofs.Ytphlfmmhpmhjfaa.PFnExactArbiterOk
