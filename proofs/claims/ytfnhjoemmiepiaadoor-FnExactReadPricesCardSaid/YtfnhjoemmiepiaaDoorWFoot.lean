/- Contracts and plain laws of functions of the given program; no conditions beside those in the theorems. -/
import Derived.Test.YtfnhjoemmiepiaaDoorWApart
import Derived.Test.YtfnhjoemmiepiaaDoorWArr
namespace Go.Proofs.YtfnhjoemmiepiaaDoorW.PrintWords
open Go.RowKit
namespace Kd
section
variable {α : Type} {d : Kd α} {e base g n c : Nat} {ok : Nat → Prop} {w w0 W : World} {A : Option Addr} {xs : List α}
end
end Kd
end Go.Proofs.YtfnhjoemmiepiaaDoorW.PrintWords
