/- Words that the printed texts of this claim use; those that they don't use are left out. -/
import Derived.Test.YtabefbjagompoaaWTab
namespace Go.Proofs.YtabefbjagompoaaW.PrintLast
section
variable {P : Program} {ops : Array Oper} {Q : Exit → Act → World → Prop} {md : Region.Mode} {S : World → Prop} {ds : List Nat} {T : Bool × List (List Nat × List Nat)}
end
end Go.Proofs.YtabefbjagompoaaW.PrintLast
