/- Contracts and plain laws of functions of the given program; no conditions beside those in the theorems. -/
import Derived.Test.YticjkfacdmmopaaDoorLawFnExactCheapestOfB
import Derived.Test.YticjkfacdmmopaaDoorLawFnExactCheapestOfC
import Derived.Test.YticjkfacdmmopaaDoorTie
namespace Go.Proofs.YticjkfacdmmopaaDoor.fnExactCheapestOf
open Go.ChangeShapes Go.WideShapes Go.ChangeAt Go.RowKit Go.Joins Go.Proofs.YticjkfacdmmopaaDoor.Ext Go.Proofs.YticjkfacdmmopaaDoor.Open
open Go.ChangeMaps (open_string shut_string)
set_option linter.unusedVariables false
theorem said : Rows.FnExactCheapestOfSaid :=
  OpenClaim.holds_of_cond 15 Tryd.f15 rfl rfl rfl rfl rfl rfl rfl ⟨rfl, rfl, rfl, rfl, rfl⟩ rfl rfl rfl rfl rfl (by kernel_rfl) Tryd.func15 closed
    (of_decide_eq_true (by kernel_rfl)) (by unfold Func.isWrapper; first | (rw [if_pos (by decide +kernel)]; kernel_rfl) | (rw [if_neg (by decide +kernel)]; exact ⟨rfl, rfl⟩))
    (fun os started H enc _ F => by rw [OpenClaim.pre_eq_preRow]; exact lifted os started H enc F)
theorem plain (f : FuncId) (fn : Func) (hf : Tryd.pinned.checked.prog.funcNamed "loop.example/g01398/laws.FnExactCheapestOf" = some f) (hfn : Tryd.pinned.checked.prog.funcs[f]? = some fn) :
    false = Tryd.pinned.checked.prog.looks [] ∧ ∀ (j : Nat) t, fn.params[j]? = some t → Tryd.pinned.checked.prog.wantsStandIn t = false := by
  obtain rfl : f = 15 := Option.some.inj ((show Tryd.prog.funcNamed "loop.example/g01398/laws.FnExactCheapestOf" = some 15 by kernel_rfl).symm.trans hf) |>.symm
  obtain rfl : fn = Tryd.f15 := (Option.some.inj (Tryd.func15.symm.trans hfn)).symm
  refine ⟨by kernel_rfl, fun j t ht => ?_⟩
  rw [Tryd.params15] at ht
  have hm : t ∈ [26, 60, 48] := by simpa using Array.mem_of_getElem? ht
  have hall : ([26, 60, 48].all fun u => !Tryd.prog.wantsStandIn u) = true := by kernel_rfl
  exact (show Tryd.prog.wantsStandIn t = false by simpa using List.all_eq_true.1 hall t hm)
theorem byText : Rows.fnExactCheapestOfRow.wfByText (OpenSpec.ofChange Rows.fnExactCheapestOfSpec) = true := by kernel_rfl
theorem goes : false = Rows.fnExactCheapestOfRow.goesBy Tryd.pinned.checked.prog := by kernel_rfl
theorem mainOf : Tryd.pinned.checked.prog.mainIs = some (((true, "fc49e28df865865bbabe04210e12078495a57aa0053ed60342697f1b61f33244")).1, ((true, "fc49e28df865865bbabe04210e12078495a57aa0053ed60342697f1b61f33244")).2.toList) := by kernel_rfl
theorem proved : Rows.FnExactCheapestOfCardSaid :=
  Claim7.holds_tied_plain_at .later [] _ _ _ _ said (fun _ h => by cases h) byText (fun _ h => by cases h) fnExactCheapestOf_row_tie rfl ⟨rfl, rfl⟩ mainOf rfl plain goes
#print axioms proved
end Go.Proofs.YticjkfacdmmopaaDoor.fnExactCheapestOf
namespace Go.Proofs.YticjkfacdmmopaaDoor
theorem fnExactCheapestOf_holds : Rows.FnExactCheapestOfCardSaid := fnExactCheapestOf.proved
end Go.Proofs.YticjkfacdmmopaaDoor
