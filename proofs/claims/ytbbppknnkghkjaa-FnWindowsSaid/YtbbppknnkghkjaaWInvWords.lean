/- Words that the printed texts of this claim use; those that they don't use are left out. -/
import Derived.Test.YtbbppknnkghkjaaWInv
import Derived.Test.YtbbppknnkghkjaaWFootNe
namespace Go.Proofs.YtbbppknnkghkjaaW.PrintWords
open Go.RowKit
end Go.Proofs.YtbbppknnkghkjaaW.PrintWords
namespace Go.Proofs.YtbbppknnkghkjaaW.PrintLast
section
variable {ops : Array Oper} {a : Act} {o og : Oper} {g : Nat} {t : Tmp} {u : Bool}
end
end Go.Proofs.YtbbppknnkghkjaaW.PrintLast
