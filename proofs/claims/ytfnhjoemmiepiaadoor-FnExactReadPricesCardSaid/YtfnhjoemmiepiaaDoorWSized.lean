/- Contracts and plain laws of functions of the given program; no conditions beside those in the theorems. -/
import Derived.SizedLaws
import Derived.ChangeSlices
namespace Go.Proofs.YtfnhjoemmiepiaaDoorW.PrintWords
open Go.ChangeShapes Go.WideShapes
end Go.Proofs.YtfnhjoemmiepiaaDoorW.PrintWords
