/- Words that the printed texts of this claim use; those that they don't use are left out. -/
import Derived.Test.YtbbppknnkghkjaaWWords
namespace Go.Proofs.YtbbppknnkghkjaaW.PrintWords
open Go.RowKit
section
variable {P : Program} {ops : Array Oper} {rest : List Oper} {o : Oper} {a : Act} {Q : Exit → Act → World → Prop} {W : World}
end
end Go.Proofs.YtbbppknnkghkjaaW.PrintWords
