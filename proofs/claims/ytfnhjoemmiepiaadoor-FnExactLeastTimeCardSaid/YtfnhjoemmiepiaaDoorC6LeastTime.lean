/- Contracts and plain laws of functions of the given program; no conditions beside those in the theorems. -/
import Derived.Test.YtfnhjoemmiepiaaDoorC3LeastTime
import Derived.ProofKit
import Derived.OpenShut
import Derived.Below
import Derived.SizedLaws
import Derived.ShutString
namespace Go.Proofs.YtfnhjoemmiepiaaDoor.Open
open Go.ChangeShapes Go.WideShapes Go.ChangeAt Go.RowKit Go.Proofs.YtfnhjoemmiepiaaDoor.Ext Go.Proofs.YtfnhjoemmiepiaaDoorW.PrintWords
set_option linter.unusedVariables false
set_option linter.unusedSimpArgs false
variable {H : Type} {enc : TypeId × Value → H} {P : Program} {w : World} {spare : Nat → Bool} {held : Bool} {t : TypeId}
theorem okWide_array {r : Reach} {base n : Nat} {e : TypeId} {v : Value} (ht : P.underlying t = some (.array n e)) (h : Value.okWide P w r base t v) : ∃ cs, v = .agg cs ∧ cs.size = P.cellsOf t := by
  unfold Value.okWide at h
  rw [ht] at h
  obtain ⟨cs, h1, h2, _⟩ := h
  exact ⟨cs, h1, h2⟩
theorem arr_list {k : IntKind} {n : Nat} {e : TypeId} {fuel : Nat} {cs : List Value} {x : DataW H × List MemPlace} (ht : P.underlying t = some (.array n e)) (he : P.underlying e = some (.int k)) (hc : P.cellsOf e = 1) (hn : P.cellsOf t = n)
    (h : DataW.trod enc P w 0 spare held fuel t cs = some x) : ∃ l : List Int, cs = nums k l ∧ l.length = n ∧ ∀ y ∈ l, (Lit.int k y).wf = true := by
  obtain ⟨xs, m, _, _, hl, hxs, hi⟩ := DataW.trod_array ht h
  rw [hn] at hl
  have each : ∀ i, i < n → ∃ y, cs[i]? = some (.int k y) ∧ (Lit.int k y).wf = true := by
    intro i hi'
    have h2 := hi i hi'
    rw [hc, Nat.mul_one] at h2
    obtain ⟨z, hz⟩ : ∃ z, xs[i]? = some z := ⟨xs[i]'(by omega), List.getElem?_eq_getElem (by omega)⟩
    rw [hz] at h2
    obtain ⟨y, hy, _, hw⟩ := DataW.trod_int he h2
    refine ⟨y, ?_, hw⟩
    have := congrArg (fun l => l[0]?) hy
    simpa [List.getElem?_take, List.getElem?_drop] using this
  refine ⟨cs.map fun v => (intOf v), ?_, by simpa using hl, ?_⟩
  · apply List.ext_getElem?
    intro i
    by_cases hi' : i < n
    · obtain ⟨y, hy, _⟩ := each i hi'
      simp [nums, hy, intOf]
    · rw [List.getElem?_eq_none (by omega), List.getElem?_eq_none (by simp [nums]; omega)]
  · intro y hy
    rw [List.mem_map] at hy
    obtain ⟨v, hv, rfl⟩ := hy
    obtain ⟨i, hi', rfl⟩ := List.mem_iff_getElem.1 hv
    obtain ⟨y, hy, hw⟩ := each i (by omega)
    rw [List.getElem?_eq_getElem hi'] at hy
    injection hy with hy
    rw [hy]; exact hw
theorem open_arr {k : IntKind} {r : Reach} {b0 n : Nat} {e : TypeId} {v : Value} {d : DataW H} {p : List MemPlace} (ht : P.underlying t = some (.array n e)) (he : P.underlying e = some (.int k)) (hc : P.cellsOf e = 1) (hn : P.cellsOf t = n)
    (hv : Value.okWide P w r b0 t v) (h : DataW.Trod enc P w 0 spare held t v d p) : ∃ l : List Int, v = .agg (cellsK k l) ∧ l.length = n ∧ ∀ y ∈ l, (Lit.int k y).wf = true := by
  obtain ⟨cs, rfl, _⟩ := okWide_array ht hv
  obtain ⟨fuel, hf⟩ := h
  obtain ⟨l, h1, h2, h3⟩ := arr_list ht he hc hn hf
  refine ⟨l, ?_, h2, h3⟩
  unfold cellsK
  rw [← h1]
  simp [Value.cells]
end Go.Proofs.YtfnhjoemmiepiaaDoor.Open
