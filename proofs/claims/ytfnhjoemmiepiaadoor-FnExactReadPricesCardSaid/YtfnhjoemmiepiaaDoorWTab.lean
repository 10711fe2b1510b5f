/- Contracts and plain laws of functions of the given program; no conditions beside those in the theorems. -/
import Derived.Test.YtfnhjoemmiepiaaDoorWLast
import Derived.Test.YtfnhjoemmiepiaaDoorWWords
namespace Go.Proofs.YtfnhjoemmiepiaaDoorW.PrintLast
open Go.Proofs.YtfnhjoemmiepiaaDoorW.PrintWords (Aside0)
section
variable {md : Region.Mode} {ops : Array Oper} {T : Bool × List (List Nat × List Nat)} {l l' li lj lk : Array Bool} {ds : List Nat} {i j k : Nat}
end
end Go.Proofs.YtfnhjoemmiepiaaDoorW.PrintLast
