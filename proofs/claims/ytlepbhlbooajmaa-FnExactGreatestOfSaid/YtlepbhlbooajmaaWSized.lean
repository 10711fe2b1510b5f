/- Contracts and plain laws of functions of the given program; no conditions beside those in the theorems. -/
import Derived.SizedLaws
import Derived.ChangeSlices
namespace Go.Proofs.YtlepbhlbooajmaaW.PrintWords
open Go.ChangeShapes Go.WideShapes
end Go.Proofs.YtlepbhlbooajmaaW.PrintWords
