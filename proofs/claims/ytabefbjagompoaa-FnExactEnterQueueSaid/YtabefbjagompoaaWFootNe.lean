/- Words that the printed texts of this claim use; those that they don't use are left out. -/
import Derived.Test.YtabefbjagompoaaWN
namespace Go.Proofs.YtabefbjagompoaaW.PrintWords
open Go.RowKit
namespace Kd
section
variable {α : Type} {d : Kd α} {W : World} {g n : Nat} {S ok : Nat → Prop} {A : Option Addr} {ad : Addr} {xs : List α}
end
end Kd
end Go.Proofs.YtabefbjagompoaaW.PrintWords
