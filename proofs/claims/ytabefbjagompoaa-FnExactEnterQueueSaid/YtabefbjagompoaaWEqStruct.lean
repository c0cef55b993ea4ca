/- Words that the printed texts of this claim use; those that they don't use are left out. -/
import Derived.Test.YtabefbjagompoaaWWords
import Derived.Laws.StructEq
namespace Go.Proofs.YtabefbjagompoaaW.PrintWords
open Go.RowKit
section
variable {P : Program} {d : Nat} {xs ys : Array Value} {f : Field} {fs : List Field} {a b : Value} {r s : Bool} {w : World}
end
end Go.Proofs.YtabefbjagompoaaW.PrintWords
