/- Contracts and plain laws of functions of the given program; no conditions beside those in the theorems. -/
import Derived.Test.YtlepbhlbooajmaaWInv
import Derived.Test.YtlepbhlbooajmaaWFootNe
namespace Go.Proofs.YtlepbhlbooajmaaW.PrintWords
open Go.RowKit
end Go.Proofs.YtlepbhlbooajmaaW.PrintWords
namespace Go.Proofs.YtlepbhlbooajmaaW.PrintLast
section
variable {ops : Array Oper} {a : Act} {o og : Oper} {g : Nat} {t : Tmp} {u : Bool}
end
end Go.Proofs.YtlepbhlbooajmaaW.PrintLast
