/- Contracts and plain laws of functions of the given program; no conditions beside those in the theorems. -/
import Derived.WalkKit
import Derived.Laws.CopyRow
import Derived.Deep.MidRow
import Derived.Test.YticjkfacdmmopaaDoorProg
import Derived.Test.YticjkfacdmmopaaDoorWWords
import Derived.Test.YticjkfacdmmopaaDoorWLast
import Derived.Test.YticjkfacdmmopaaDoorWMore
namespace Go.Proofs.YticjkfacdmmopaaDoor.Ext
open Go.RowKit Go.Proofs.YticjkfacdmmopaaDoorW.PrintWords Go.Proofs.YticjkfacdmmopaaDoorW.PrintLast Go.Proofs.YticjkfacdmmopaaDoorW.PrintMore
theorem u8_w_ (n : Int) : IntKind.u8.wrap n = n % 256 := by simp [IntKind.wrap, IntKind.signed, IntKind.bits]
end Go.Proofs.YticjkfacdmmopaaDoor.Ext
