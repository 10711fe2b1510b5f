/- Contracts and plain laws of functions of the given program; no conditions beside those in the theorems. -/
import Derived.Test.YtcibhhkpnakkgaaWWords
import Derived.Laws.StructEq
namespace Go.Proofs.YtcibhhkpnakkgaaW.PrintWords
open Go.RowKit
section
variable {P : Program} {d : Nat} {xs ys : Array Value} {f : Field} {fs : List Field} {a b : Value} {r s : Bool} {w : World}
end
end Go.Proofs.YtcibhhkpnakkgaaW.PrintWords
