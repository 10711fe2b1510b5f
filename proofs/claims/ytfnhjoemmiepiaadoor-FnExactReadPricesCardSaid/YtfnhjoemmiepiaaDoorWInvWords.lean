/- Contracts and plain laws of functions of the given program; no conditions beside those in the theorems. -/
import Derived.Test.YtfnhjoemmiepiaaDoorWInv
import Derived.Test.YtfnhjoemmiepiaaDoorWFootNe
namespace Go.Proofs.YtfnhjoemmiepiaaDoorW.PrintWords
open Go.RowKit
end Go.Proofs.YtfnhjoemmiepiaaDoorW.PrintWords
namespace Go.Proofs.YtfnhjoemmiepiaaDoorW.PrintLast
section
variable {ops : Array Oper} {a : Act} {o og : Oper} {g : Nat} {t : Tmp} {u : Bool}
end
end Go.Proofs.YtfnhjoemmiepiaaDoorW.PrintLast
