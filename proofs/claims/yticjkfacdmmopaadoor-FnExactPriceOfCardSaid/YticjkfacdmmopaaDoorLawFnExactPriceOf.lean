/- Contracts and plain laws of functions of the given program; no conditions beside those in the theorems. -/
import Derived.Test.YticjkfacdmmopaaDoorLawFnExactPriceOfB
import Derived.Test.YticjkfacdmmopaaDoorLawFnExactPriceOfC
import Derived.Test.YticjkfacdmmopaaDoorTie
namespace Go.Proofs.YticjkfacdmmopaaDoor.fnExactPriceOf
open Go.ChangeShapes Go.WideShapes Go.ChangeAt Go.RowKit Go.Joins Go.Proofs.YticjkfacdmmopaaDoor.Ext Go.Proofs.YticjkfacdmmopaaDoor.Open
open Go.ChangeMaps (open_string shut_string)
set_option linter.unusedVariables false
theorem said : Rows.FnExactPriceOfSaid :=
  OpenClaim.holds_of_cond 12 Tryd.f12 rfl rfl rfl rfl rfl rfl rfl ⟨rfl, rfl, rfl, rfl, rfl⟩ rfl rfl rfl rfl rfl (by kernel_rfl) Tryd.func12 closed
    (of_decide_eq_true (by kernel_rfl)) (by unfold Func.isWrapper; first | (rw [if_pos (by decide +kernel)]; kernel_rfl) | (rw [if_neg (by decide +kernel)]; exact ⟨rfl, rfl⟩))
    (fun os started H enc _ F => by rw [OpenClaim.pre_eq_preRow]; exact lifted os started H enc F)
theorem plain (f : FuncId) (fn : Func) (hf : Tryd.pinned.checked.prog.funcNamed "loop.example/g01398/laws.FnExactPriceOf" = some f) (hfn : Tryd.pinned.checked.prog.funcs[f]? = some fn) :
    false = Tryd.pinned.checked.prog.looks [] ∧ ∀ (j : Nat) t, fn.params[j]? = some t → Tryd.pinned.checked.prog.wantsStandIn t = false := by
  obtain rfl : f = 12 := Option.some.inj ((show Tryd.prog.funcNamed "loop.example/g01398/laws.FnExactPriceOf" = some 12 by kernel_rfl).symm.trans hf) |>.symm
  obtain rfl : fn = Tryd.f12 := (Option.some.inj (Tryd.func12.symm.trans hfn)).symm
  refine ⟨by kernel_rfl, fun j t ht => ?_⟩
  rw [Tryd.params12] at ht
  have hm : t ∈ [26, 60, 9] := by simpa using Array.mem_of_getElem? ht
  have hall : ([26, 60, 9].all fun u => !Tryd.prog.wantsStandIn u) = true := by kernel_rfl
  exact (show Tryd.prog.wantsStandIn t = false by simpa using List.all_eq_true.1 hall t hm)
theorem byText : Rows.fnExactPriceOfRow.wfByText (OpenSpec.ofChange Rows.fnExactPriceOfSpec) = true := by kernel_rfl
theorem goes : false = Rows.fnExactPriceOfRow.goesBy Tryd.pinned.checked.prog := by kernel_rfl
theorem mainOf : Tryd.pinned.checked.prog.mainIs = some (((true, "fc49e28df865865bbabe04210e12078495a57aa0053ed60342697f1b61f33244")).1, ((true, "fc49e28df865865bbabe04210e12078495a57aa0053ed60342697f1b61f33244")).2.toList) := by kernel_rfl
theorem proved : Rows.FnExactPriceOfCardSaid :=
  Claim7.holds_tied_plain_at .later [] _ _ _ _ said (fun _ h => by cases h) byText (fun _ h => by cases h) fnExactPriceOf_row_tie rfl ⟨rfl, rfl⟩ mainOf rfl plain goes
#print axioms proved
end Go.Proofs.YticjkfacdmmopaaDoor.fnExactPriceOf
namespace Go.Proofs.YticjkfacdmmopaaDoor
theorem fnExactPriceOf_holds : Rows.FnExactPriceOfCardSaid := fnExactPriceOf.proved
end Go.Proofs.YticjkfacdmmopaaDoor
