/- Plain laws of the smallest functions: is a number in its bounds. -/
import Derived.Test.YthdoeefaibeodaaDoorPureKit
import Derived.Test.YthdoeefaibeodaaDoorExtA
import Derived.Test.YthdoeefaibeodaaDoorQ8
import Derived.Test.YthdoeefaibeodaaDoorQ5
namespace Go.Proofs.YthdoeefaibeodaaDoor.Pure
open Go.RowKit Go.Proofs.YthdoeefaibeodaaDoor.Ext Go.Proofs.YthdoeefaibeodaaDoor.Q Go.Proofs.YthdoeefaibeodaaDoorW.PrintWords Go.Proofs.YthdoeefaibeodaaDoorW.PrintLast Go.Proofs.YthdoeefaibeodaaDoorW.PrintMore
set_option linter.unusedVariables false
set_option linter.unusedSimpArgs false
theorem in_eq (a b c : Int) : spec_l00In.f a b c = some (inB a b c) := by
  unfold spec_l00In.f inB
  by_cases h : b ≤ a
  · rw [if_pos h]; simp [h]
  · rw [if_neg h]; simp [h]
theorem within_eq (a b c : Int) : impl_within.f a b c = some (inB a b c) := by
  unfold impl_within.f inB
  by_cases h : b ≤ a
  · rw [if_pos h]; simp [h]
  · rw [if_neg h]; simp [h]
/-- What holds of all holds of each. -/
theorem rd_all {p : Int → Bool} {l : List Int} (h : l.all p = true) (n : Nat) (hn : n < l.length) : p (rd l n) = true := List.all_eq_true.1 h _ (rd_mem l n hn)
end Go.Proofs.YthdoeefaibeodaaDoor.Pure
