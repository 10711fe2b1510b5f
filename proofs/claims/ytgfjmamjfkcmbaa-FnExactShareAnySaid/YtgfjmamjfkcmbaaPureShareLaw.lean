/- The plain law of ShareAny. -/
import Derived.Test.YtgfjmamjfkcmbaaPureShare
import Derived.Test.YtgfjmamjfkcmbaaQ27
namespace Go.Proofs.Ytgfjmamjfkcmbaa.Pure
open Go.RowKit Go.Proofs.Ytgfjmamjfkcmbaa.Ext Go.Proofs.Ytgfjmamjfkcmbaa.Q Go.Proofs.YtgfjmamjfkcmbaaW.PrintWords Go.Proofs.YtgfjmamjfkcmbaaW.PrintLast Go.Proofs.YtgfjmamjfkcmbaaW.PrintMore
set_option linter.unusedVariables false
set_option linter.unusedSimpArgs false
theorem chooseS_len (t : List Int) (cut : Nat) : ∀ (r : Nat) (lst sums : List Int) (σ : List Int × Int), lst.length + r = t.length → σ.1.length ≤ t.length → (chooseS t cut r lst sums σ).1.length ≤ t.length
  | 0, lst, sums, σ, h, hs => by
    show (updS lst sums σ).1.length ≤ _
    unfold updS
    split
    · simp; omega
    · exact hs
  | r + 1, lst, sums, σ, h, hs => by
    rw [chooseS_succ]
    have hi : ∀ i, ((List.range i).foldl (stepS t cut r lst sums) σ).1.length ≤ t.length := by
      intro i
      induction i with
      | zero => exact hs
      | succ i ih =>
        rw [fold_succ]
        exact chooseS_len t cut r _ _ _ (by simp; omega) ih
    exact hi _
theorem shareC_len (t : List Int) (n : Int) : (shareC t n).1.length ≤ t.length := by
  unfold shareC
  split
  · exact chooseS_len t _ t.length [] [] ([], -1) (by simp) (by simp)
  · simp
theorem FnExactShareAny : laws_FnExactShareAny.Pure := by
  intro t n _ _ _ _
  refine ⟨t.length + 20, ?_⟩
  unfold laws_FnExactShareAny.f
  by_cases h : (t.length : Int) > 1048576
  · rw [if_pos h]
  · have hl := shareC_len t n
    have hs : ∀ k, t.length < k → spec_ShareAny.f k t n = some (shareC t n) := fun k hk => spec_share_eq t n (by omega) hk
    have hi : impl_ShareAny.f t n = some (shareC t n) := rfl
    rw [if_neg h]
    repeat (first | rw [toInt64S_eq (by omega) (by omega)] | rw [hs _ (by omega)] | rw [hi] | rw [eqInt64S_self (by omega) (by omega)] | rw [markInt64S_eq (by omega) (by omega) (by omega) (by omega)] | rw [heldInt64S_eq (by omega) (by omega) (by omega) (by omega)] | simp only [Option.bind_some, if_true, bne_self_eq_false, Bool.false_eq_true, if_false, laws_FnExactShareAny.j0, laws_FnExactShareAny.j1, laws_FnExactShareAny.j2] | rw [if_neg (by omega)])
end Go.Proofs.Ytgfjmamjfkcmbaa.Pure
