/- Contracts and plain laws of functions of the given program; no conditions beside those in the theorems. -/
import Derived.Test.YtcibhhkpnakkgaaWInv
import Derived.Test.YtcibhhkpnakkgaaWFootNe
namespace Go.Proofs.YtcibhhkpnakkgaaW.PrintWords
open Go.RowKit
end Go.Proofs.YtcibhhkpnakkgaaW.PrintWords
namespace Go.Proofs.YtcibhhkpnakkgaaW.PrintLast
section
variable {ops : Array Oper} {a : Act} {o og : Oper} {g : Nat} {t : Tmp} {u : Bool}
end
end Go.Proofs.YtcibhhkpnakkgaaW.PrintLast
