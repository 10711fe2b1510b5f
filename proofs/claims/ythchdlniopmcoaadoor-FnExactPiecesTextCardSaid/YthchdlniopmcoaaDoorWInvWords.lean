/- Contracts and plain laws of functions of the given program; no conditions beside those in the theorems. -/
import Derived.Test.YthchdlniopmcoaaDoorWInv
import Derived.Test.YthchdlniopmcoaaDoorWFootNe
namespace Go.Proofs.YthchdlniopmcoaaDoorW.PrintWords
open Go.RowKit
end Go.Proofs.YthchdlniopmcoaaDoorW.PrintWords
namespace Go.Proofs.YthchdlniopmcoaaDoorW.PrintLast
section
variable {ops : Array Oper} {a : Act} {o og : Oper} {g : Nat} {t : Tmp} {u : Bool}
end
end Go.Proofs.YthchdlniopmcoaaDoorW.PrintLast
