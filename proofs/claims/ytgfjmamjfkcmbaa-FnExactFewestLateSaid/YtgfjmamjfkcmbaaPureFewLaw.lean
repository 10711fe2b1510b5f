/- The plain law of FewestLate. -/
import Derived.Test.YtgfjmamjfkcmbaaPureFew
import Derived.Test.YtgfjmamjfkcmbaaQ35
namespace Go.Proofs.Ytgfjmamjfkcmbaa.Pure
open Go.RowKit Go.Proofs.Ytgfjmamjfkcmbaa.Ext Go.Proofs.Ytgfjmamjfkcmbaa.Q Go.Proofs.YtgfjmamjfkcmbaaW.PrintWords Go.Proofs.YtgfjmamjfkcmbaaW.PrintLast Go.Proofs.YtgfjmamjfkcmbaaW.PrintMore
set_option linter.unusedVariables false
set_option linter.unusedSimpArgs false
theorem FnExactFewestLate : laws_FnExactFewestLate.Pure := by
  intro t d _ _ _ _ _ _
  refine ⟨t.length + d.length + 1000020, ?_⟩
  unfold laws_FnExactFewestLate.f
  by_cases h : (t.length : Int) > 1048576
  · rw [if_pos h]
  · by_cases h2 : (d.length : Int) > 1048576
    · rw [if_neg h, if_pos h2]
    · have hl := fewC_len t d
      have hs : ∀ k, t.length + d.length + 1000000 < k → spec_FewestLate.f k t d = some (fewC t d) := fun k hk => spec_few_eq t d (by omega) (by omega) hk
      have hi : impl_FewestLate.f t d = some (fewC t d) := rfl
      rw [if_neg h, if_neg h2]
      repeat (first | rw [toInt64S_eq (by omega) (by omega)] | rw [hs _ (by omega)] | rw [hi] | rw [eqInt64S_self (by omega) (by omega)] | rw [markInt64S_eq (by omega) (by omega) (by omega) (by omega)] | rw [heldInt64S_eq (by omega) (by omega) (by omega) (by omega)] | simp only [Option.bind_some, if_true, bne_self_eq_false, Bool.false_eq_true, if_false, laws_FnExactFewestLate.j0, laws_FnExactFewestLate.j1, laws_FnExactFewestLate.j2] | rw [if_neg (by omega)])
end Go.Proofs.Ytgfjmamjfkcmbaa.Pure
