/- Contracts and plain laws of functions of the given program; no conditions beside those in the theorems. -/
import Derived.Test.YticjkfacdmmopaaDoorC0CheapestOf
import Derived.SliceStrings
import Derived.Deep.Slices
import Derived.Test.YticjkfacdmmopaaDoorWWords
namespace Go.Proofs.YticjkfacdmmopaaDoor.Open
open Go.ChangeShapes Go.WideShapes Go.ChangeAt Go.RowKit Go.Proofs.YticjkfacdmmopaaDoor.Ext Go.Proofs.YticjkfacdmmopaaDoorW.PrintWords
set_option linter.unusedVariables false
set_option linter.unusedSimpArgs false
theorem open_strs {H : Type} {enc : TypeId × Value → H} {P : Program} {w : World} {held : Bool} {t e : TypeId} {v : Value} {d : DataW H} {p : List MemPlace} (ht : P.underlying t = some (.slice e)) (he : P.underlying e = some .string) (hc : P.cellsOf e = 1) {r : Reach} {b0 : Nat} (hv : Value.okWide P w r b0 t v)
    (h : DataW.Trod enc P w 0 (fun _ => true) held t v d p) :
    ∃ (A : Option Addr) (c : Nat) (l : List ByteArray), v = .slice A l.length c ∧ l.length ≤ c ∧ c ≤ maxLen ∧ Kd.C Kd.string w A l.length l ∧ ∀ s ∈ l, s.size ≤ maxLen := by
  obtain ⟨a0, len0, cap0, rfl⟩ := okWide_slice ht hv
  obtain ⟨fuel, hf⟩ := h
  rcases open_strings ht he hc hf with ⟨hcs, _⟩ | ⟨a, len, cap, ss, hcs, _, hl, hm, hlen, _, hcell, hz⟩
  · simp [Value.cells] at hcs
    obtain ⟨rfl, rfl, rfl⟩ := hcs
    exact ⟨none, 0, [], rfl, Nat.le_refl _, Nat.zero_le _, ⟨rfl, by simp, fun hp => absurd hp (by simp)⟩, by simp⟩
  · simp [Value.cells] at hcs
    obtain ⟨rfl, rfl, rfl⟩ := hcs
    have hlen' : ss.length = cap0 := by simpa using hlen
    have htl : (ss.take len0).length = len0 := by rw [List.length_take]; omega
    refine ⟨some a, cap0, ss.take len0, by rw [htl], by omega, hm, ⟨rfl, by rw [htl]; unfold maxLen at hm; omega, fun hp => ⟨a, rfl, fun j s hj => ?_⟩⟩, fun s hs => hz s (List.mem_of_mem_take hs)⟩
    obtain ⟨hlt, rfl⟩ := List.getElem?_eq_some_iff.1 hj
    have hjl : j < ss.length := by rw [htl] at hlt; omega
    refine ⟨[.string (ss.take len0)[j]], rfl, rfl, fun i u hi => ?_⟩
    match i, hi with
    | 0, hi =>
      simp at hi
      subst hi
      have := hcell j hjl
      rw [List.getD_eq_getElem?_getD, List.getElem?_eq_getElem hjl] at this
      simpa [Kd.string, Kd.scalar] using this
end Go.Proofs.YticjkfacdmmopaaDoor.Open
