/- Contracts and plain laws of functions of the given program; no conditions beside those in the theorems. -/
import Derived.Test.YticjkfacdmmopaaDoorCards
import Derived.Test.YticjkfacdmmopaaDoorC0CheapestOf
import Derived.Test.YticjkfacdmmopaaDoorC9CheapestOf
import Derived.WalkKit
import Derived.ProofKit
import Derived.OpenShut
import Derived.ShutString
import Derived.ChangeOld
import Derived.Below
import Derived.SizedLaws
import Derived.Lib.SmallJoins
import Derived.Deep.DeepHandedRow
import Derived.Lib.LaidTab
import Derived.Lib.LaidU8
import Derived.Lib.DecodeN
import Derived.JoinedCond
namespace Go.Proofs.YticjkfacdmmopaaDoor.fnExactCheapestOf
open Go.ChangeShapes Go.WideShapes Go.ChangeAt Go.RowKit Go.Joins Go.Proofs.YticjkfacdmmopaaDoor.Ext Go.Proofs.YticjkfacdmmopaaDoor.Open
open Go.ChangeMaps (open_string shut_string)
set_option linter.unusedVariables false
theorem both {a b : Bool} (h : a = true) (g : b = true) : (a && b) = true := by rw [h, g]; rfl
set_option maxHeartbeats 4000000 in
theorem closed : joinedFacts Tryd.pinned.checked.prog 15 Tryd.f15 Rows.fnExactCheapestOfSpec Rows.fnExactCheapestOfRow = true := by
  unfold joinedFacts
  repeat' (with_reducible refine both ?_ ?_)
  all_goals (first | (with_reducible exact Facts.laidOut) | (with_reducible exact Facts.mapsRow) | (with_reducible exact Facts.heard) | (with_reducible exact Facts.enter) | (with_reducible refine Facts.lifts ?_; rfl) | (with_reducible refine Facts.plainKeys ?_; rfl) | (as_aux_lemma => kernel_rfl))
end Go.Proofs.YticjkfacdmmopaaDoor.fnExactCheapestOf
