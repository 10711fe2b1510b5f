/- Contracts and plain laws of functions of the given program; no conditions beside those in the theorems. -/
import Derived.Test.YticjkfacdmmopaaDoorRows
import Derived.WalkKit
import Derived.ProofKit
import Derived.JoinedCond
namespace Go.Proofs.YticjkfacdmmopaaDoor.Facts
open Go
theorem laidOut : laidOutB Tryd.pinned.checked.prog = true := by kernel_rfl
theorem mapsRow : mapsRowed Tryd.pinned.checked.prog = true := by kernel_rfl
theorem lift0 : Tryd.pinned.checked.prog.liftsFinal = Rows.fnExactWordWideRow.lifted := by kernel_rfl
theorem lifts {b : Bool} (h : b = Rows.fnExactWordWideRow.lifted) : (b == Tryd.pinned.checked.prog.liftsFinal) = true := by
  rw [lift0, h]
  exact BEq.refl _
theorem plain0 : Tryd.pinned.checked.prog.plainKeys = Rows.fnExactWordWideRow.plainKeys := by kernel_rfl
theorem plainKeys {b : Bool} (h : b = Rows.fnExactWordWideRow.plainKeys) : (b == Tryd.pinned.checked.prog.plainKeys) = true := by
  rw [plain0, h]
  exact BEq.refl _
theorem heard : Tryd.pinned.checked.prog.stopsHeard = true := by kernel_rfl
theorem enter : Tryd.pinned.checked.prog.mayEnter = true := by kernel_rfl
end Go.Proofs.YticjkfacdmmopaaDoor.Facts
