/- Words that the printed texts of this claim use; those that they don't use are left out. -/
import Derived.Test.YtabefbjagompoaaWInv
import Derived.Test.YtabefbjagompoaaWFootNe
namespace Go.Proofs.YtabefbjagompoaaW.PrintWords
open Go.RowKit
end Go.Proofs.YtabefbjagompoaaW.PrintWords
namespace Go.Proofs.YtabefbjagompoaaW.PrintLast
section
variable {ops : Array Oper} {a : Act} {o og : Oper} {g : Nat} {t : Tmp} {u : Bool}
end
end Go.Proofs.YtabefbjagompoaaW.PrintLast
