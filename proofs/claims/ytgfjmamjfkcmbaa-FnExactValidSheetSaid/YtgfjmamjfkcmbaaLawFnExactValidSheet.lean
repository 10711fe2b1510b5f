/- Proves FnExactValidSheet: for every input the law returns true and each argument reads behind the call as it read before; no conditions. -/
import Derived.Test.YtgfjmamjfkcmbaaRows
import Derived.Test.YtgfjmamjfkcmbaaValid
import Derived.Test.YtgfjmamjfkcmbaaOpen
import Derived.WalkKit
import Derived.ProofKit
import Derived.OpenShut
import Derived.ShutString
import Derived.ChangeOld
import Derived.Below
import Derived.SizedLaws
import Derived.Lib.SmallJoins
import Derived.Test.YtgfjmamjfkcmbaaWSized
namespace Go.Proofs.Ytgfjmamjfkcmbaa.fnExactValidSheet
open Go.ChangeShapes Go.WideShapes Go.ChangeAt Go.RowKit Go.Joins Go.Proofs.Ytgfjmamjfkcmbaa.Ext Go.Proofs.Ytgfjmamjfkcmbaa.Open
open Go.ChangeMaps (open_string shut_string)
set_option linter.unusedVariables false
theorem own : ownKnob Try.prog.godebug = none := by kernel_rfl
theorem laidOut : laidOutB Try.prog = true := by kernel_rfl
set_option maxRecDepth 100000 in
theorem lifted (os : Os) (started : os.Started) (H : Type) (enc : TypeId × Value → H) :
    ReturnsInHanded {} Try.checked os 4 .any (Rows.fnExactValidSheetSpec.pre6 enc Try.prog Try.f4 Rows.fnExactValidSheetRow.domain false) (Rows.fnExactValidSheetSpec.post enc Try.prog Try.f4 false true false false) := by
  refine returnsInHanded_of_change_sized (C := Try.checked) own started (by kernel_rfl) Try.func4
    (ChangeSpec.witness6 (enc := enc) (C := Try.checked) false ⟨#[], #[.agg #[.int .i16 0, .int .i8 0]], []⟩ 8 (by kernel_rfl) (by kernel_rfl) (by kernel_rfl) (by kernel_rfl)) ?_
  intro W base args ds gs before hval0 hW hcnd hsz0 _
  have hsz : (DataW.weightsEach Try.prog (Try.f4.params.toList ++ Rows.fnExactValidSheetSpec.plain.varTypes Try.prog) (ds ++ gs)).all (· ≤ reachBytes) = true := hsz0
  have hval : ∀ (j : Nat) t v, Try.f4.params[j]? = some t → args[j]? = some v → Value.okWide Try.prog W .any base t v := hval0
  have hW' := hW
  obtain ⟨p, q, hA0, hV, rfl, hfz, hnd⟩ := hW
  have hA : DataW.TrodAll enc Try.prog W 0 (fun _ => true) true Try.f4.params.toList args.toList ds p := hA0
  rw [Try.params4] at hA hval hsz
  obtain ⟨v0, vs0, d0, ds0, p0, q0, hargs, rfl, rfl, h0, r0⟩ := trodAll_cons hA
  obtain ⟨rfl, rfl, rfl⟩ := trodAll_nil r0
  obtain rfl : args = #[v0] := by cases args; simp_all
  obtain ⟨rfl, rfl⟩ := trodVars_none hV
  have k0 := h0
  have lt0 : ∀ x ∈ p0, x.block < W.heap.size := by obtain ⟨m, hm⟩ := k0; exact DataW.trod_lt m _ _ _ hm
  obtain ⟨c0, e0, y0, z0, m0, rfl, _, _, hy0, hz0⟩ := open_agg2 Try.underlying31 (by kernel_rfl) (by kernel_rfl : Try.prog.cellsOf 31 = 2) (hval 0 31 v0 rfl rfl) h0
  obtain ⟨a0, x0, _, w0⟩ := DataW.trod_int Try.underlying22 hy0
  obtain ⟨b0, t0, _, u0⟩ := DataW.trod_int Try.underlying23 hz0
  obtain rfl : c0 = .int .i16 a0 := by simpa using x0
  obtain rfl : e0 = .int .i8 b0 := by simpa using t0
  clear hA0 hval0 hsz0 hsz
  refine (FnExactValidSheet_calls a0 b0 w0 u0 W).mono fun e W' ⟨he, bel⟩ => ?_
  subst he
  exact ⟨_, rfl, _, _, _, [], _, [], hW', trodAll_mk1 (shut_bool Try.underlying4 _), (trodAll_cons_mk (Below.trod laidOut (by kernel_rfl) (of_decide_eq_true (by kernel_rfl)) k0 bel lt0) trodAll_mk0), rfl, bel.frame _, fun h => by cases h⟩
theorem over : Rows.fnExactValidSheetRow.holds Try.pinned (OpenSpec.ofChange Rows.fnExactValidSheetSpec) :=
  OpenClaim.holds_of_wide 4 Try.f4 rfl rfl rfl rfl rfl rfl rfl ⟨rfl, rfl, rfl, rfl, rfl⟩ rfl rfl rfl rfl rfl (by kernel_rfl) Try.func4 (by kernel_rfl)
    (of_decide_eq_true (by kernel_rfl)) (by unfold Func.isWrapper; first | (rw [if_pos (by decide +kernel)]; kernel_rfl) | (rw [if_neg (by decide +kernel)]; exact ⟨rfl, rfl⟩))
    (fun os started H enc _ => lifted os started H enc)
theorem proved : Rows.FnExactValidSheetSaid := over
#print axioms proved
end Go.Proofs.Ytgfjmamjfkcmbaa.fnExactValidSheet
namespace Go.Proofs.Ytgfjmamjfkcmbaa
/-- The row, under a short name, for the claim. -/
theorem fnExactValidSheet_holds : Rows.FnExactValidSheetSaid := fnExactValidSheet.proved
end Go.Proofs.Ytgfjmamjfkcmbaa
