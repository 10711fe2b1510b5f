/- Contracts and plain laws of functions of the given program; no conditions beside those in the theorems. -/
import Derived.Test.YticjkfacdmmopaaDoorWInv
import Derived.Test.YticjkfacdmmopaaDoorWFootNe
namespace Go.Proofs.YticjkfacdmmopaaDoorW.PrintWords
open Go.RowKit
end Go.Proofs.YticjkfacdmmopaaDoorW.PrintWords
namespace Go.Proofs.YticjkfacdmmopaaDoorW.PrintLast
section
variable {ops : Array Oper} {a : Act} {o og : Oper} {g : Nat} {t : Tmp} {u : Bool}
end
end Go.Proofs.YticjkfacdmmopaaDoorW.PrintLast
