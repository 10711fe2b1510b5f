/- Contracts and plain laws of functions of the given program; no conditions beside those in the theorems. -/
import Derived.Test.YtlepbhlbooajmaaWApart
import Derived.Test.YtlepbhlbooajmaaWArr
namespace Go.Proofs.YtlepbhlbooajmaaW.PrintWords
open Go.RowKit
namespace Kd
section
variable {α : Type} {d : Kd α} {e base g n c : Nat} {ok : Nat → Prop} {w w0 W : World} {A : Option Addr} {xs : List α}
theorem C_foot_own (h : d.R e W base ok (.slice A n c) xs) (hok : ∀ k, ok k → k ≠ g) : ∀ W', KeepBut W W' g none → d.C W' A n xs := fun W' hk => by
 have h2 := R_reads' (R_keep h hk hok)
 rw [h2.1]
 exact h2.2.2
theorem C_foot_now (h : ∀ W', KeepBut w W' g none → d.C W' A n xs) (hk : KeepBut w W g none) : d.C W A n xs := h W hk
end
end Kd
end Go.Proofs.YtlepbhlbooajmaaW.PrintWords
