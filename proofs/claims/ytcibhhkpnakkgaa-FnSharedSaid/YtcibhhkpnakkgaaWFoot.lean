/- Contracts and plain laws of functions of the given program; no conditions beside those in the theorems. -/
import Derived.Test.YtcibhhkpnakkgaaWApart
import Derived.Test.YtcibhhkpnakkgaaWArr
namespace Go.Proofs.YtcibhhkpnakkgaaW.PrintWords
open Go.RowKit
namespace Kd
section
variable {α : Type} {d : Kd α} {e base g n c : Nat} {ok : Nat → Prop} {w w0 W : World} {A : Option Addr} {xs : List α}
end
end Kd
end Go.Proofs.YtcibhhkpnakkgaaW.PrintWords
